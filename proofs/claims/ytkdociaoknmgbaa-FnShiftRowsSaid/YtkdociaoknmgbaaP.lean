/- The plain law of FnShiftRows. -/
import Derived.Test.YtkdociaoknmgbaaG3
namespace Go.Proofs.Ytkdociaoknmgbaa
set_option linter.unusedSimpArgs false
set_option linter.unusedVariables false
open Go Go.AM
def Small {α : Type} (l : List α) : Prop := l.length ≤ 9223372036854775807
def FOks (l : List F) : Prop := ∀ c ∈ l, FOk .f32 c
theorem FOks.at {l : List F} (h : FOks l) {i : Nat} {c : F} (e : l[i]? = some c) : FOk .f32 c := h c (List.mem_of_getElem? e)
theorem s_l00In_eq (n lo hi : Int) : s_l00In n lo hi = some (decide (lo ≤ n) && decide (n ≤ hi)) := by
  unfold s_l00In; cases decide (lo ≤ n) <;> rfl
theorem i_inRange_eq (n lo hi : Int) : i_inRange n lo hi = some (decide (lo ≤ n) && decide (n ≤ hi)) := by
  unfold i_inRange; cases decide (lo ≤ n) <;> rfl
theorem s_l01Finite_eq {c : F} (h : FOk .f32 c) : s_l01Finite c = some (fin32 c) := by
  unfold s_l01Finite; rw [olet_eq, sub_self h]
theorem s_l02Finite_eq {a : List F} (ha : FOks a) (sa : a.length ≤ 1048576) : s_l02Finite a = some (a.all fin32) := by
  unfold s_l02Finite
  rw [loop_all (l := a) (p := fin32) false ?_ ?_]
  · cases h : a.all fin32 <;> simp [s_l02Finite_k1]
  · intro v x h0 hv hx
    show s_l02Finite_b1 a v = _
    unfold s_l02Finite_b1
    rw [at?_of h0 hx, wrap_succ h0 hv (by omega)]
    simp [bsel_if, hv, s_l01Finite_eq (ha.at hx)]
  · show s_l02Finite_b1 a (a.length : Int) = _
    unfold s_l02Finite_b1
    simp [bsel_if]
theorem i_IsFinite_eq {c : F} (h : FOk .f32 c) : i_IsFinite c = some (fin32 c) := by
  unfold i_IsFinite i_isFinite64 x_math_IsNaN x_math_IsInf x_math_Abs x_math_IsInf_k1
  cases c with
  | none => simp [fwiden, fin32]
  | some b =>
    have hw := feq_refl (k := .f64) (b := FloatKind.f64.encode (FloatKind.f32.decode b)) (fwiden_ok h)
    have hw' : feq .f64 (fwiden (some b)) (fwiden (some b)) = true := hw
    have hm := fabs_max h (by simp)
    simp only [olet_eq, obind_eq, hw', Bool.not_true, bsel_false, decide_true, bsel_true, hm, Bool.not_not]
theorem i_areFinite_1_eq {c : F} (h : FOk .f32 c) : i_areFinite_1 c = some (!fin32 c) := by
  unfold i_areFinite_1; rw [i_IsFinite_eq h]; rfl
theorem any_not {α : Type} (l : List α) (p : α → Bool) : l.any (fun x => !p x) = !l.all p := by
  induction l with
  | nil => rfl
  | cons a l ih => simp [ih]
theorem i_areFinite_eq {a : List F} (ha : FOks a) (sa : a.length ≤ 1048576) : i_areFinite a = some (a.all fin32) := by
  unfold i_areFinite x_slices_ContainsFunc_float32_float32_1Fi_areFinite_1 x_slices_IndexFunc_float32_float32_1Fi_areFinite_1
  obtain ⟨r, h1, h2⟩ := loop_find (l := a) (p := fun c => !fin32 c) (step := x_slices_IndexFunc_float32_float32_1Fi_areFinite_1_s1 a) (by
    intro v x h0 hv hx
    show x_slices_IndexFunc_float32_float32_1Fi_areFinite_1_b1 a v = _
    unfold x_slices_IndexFunc_float32_float32_1Fi_areFinite_1_b1
    rw [at?_of h0 hx, wrap_succ h0 hv (by omega)]
    simp [bsel_if, hv, i_areFinite_1_eq (ha.at hx)]) (by
    show x_slices_IndexFunc_float32_float32_1Fi_areFinite_1_b1 a (a.length : Int) = _
    unfold x_slices_IndexFunc_float32_float32_1Fi_areFinite_1_b1
    simp [bsel_if])
  rw [h1, any_not]
  cases h : a.all fin32 <;> simp [x_slices_IndexFunc_float32_float32_1Fi_areFinite_1_k1, h2]
abbrev q1 : List F := [some 1073741824, some 1065353216, some 1065353216, some 1073741824]
abbrev q2 : List F := [some 1065353216, some 0]
abbrev q3 : List F := [some 1073741824, some 1073741824]
theorem small_mul {x y : Nat} (hx : x ≤ 12) (hy : y ≤ 12) : x * y ≤ 144 := Nat.mul_le_mul hx hy
def side (n : Int) : Bool := decide (1 ≤ n) && decide (n ≤ 12)
theorem s_l02Sides_eq (x y : Int) : s_l02Sides x y = some (side x && side y) := by
  unfold s_l02Sides; rw [s_l00In_eq, s_l00In_eq]; unfold side
  cases decide (1 ≤ x) <;> cases decide (x ≤ 12) <;> rfl
def validM (a0 a1 : Int) (a2 : List F) : Bool := side a0 && side a1 && decide ((a2.length : Int) = IntKind.i64.wrap (a0 * a1)) && a2.all fin32
theorem s_l02Is_eq (a0 a1 : Int) {a2 : List F} (g2 : FOks a2) (s2 : a2.length ≤ 1048576) : s_l02Is a0 a1 a2 = some (validM a0 a1 a2) := by
  unfold s_l02Is validM
  rw [s_l02Sides_eq, s_l02Finite_eq g2 s2]
  cases side a0 <;> cases side a1 <;> simp [bsel_if] <;> split <;> simp_all
theorem FOks.getD {l : List F} (h : FOks l) (n : Nat) : FOk .f32 (l.getD n none) := by
  simp only [List.getD]
  cases e : l[n]? with
  | none => exact fok_none _
  | some c => exact h.at e
theorem FOks.set {l : List F} (h : FOks l) {n : Nat} {x : F} (hx : FOk .f32 x) : FOks (l.set n x) := by
  intro c hc
  rcases List.mem_or_eq_of_mem_set hc with h1 | h1
  · exact h c h1
  · exact h1 ▸ hx
theorem wsucc {i : Nat} (h : i ≤ 1000000000) : IntKind.i64.wrap ((i : Int) + 1) = ((i + 1 : Nat) : Int) := by
  rw [wrap_i64 (by omega) (by omega)]; omega
theorem dlt {i n : Nat} (h : i < n) : decide ((i : Int) < (n : Int)) = true := by simp; omega
theorem dnlt {n : Nat} : decide ((n : Int) < (n : Int)) = false := by simp
theorem i_Matrix_set_02o_eq {A C i k : Nat} {L : List F} (r : Int) (h : Mat A C L) (hi : i < A) (hk : k < C) (x : F) : i_Matrix_set_02o r (C : Int) (i : Int) (k : Int) x L = some (sm L C i k x) := by
  obtain ⟨e1, e2⟩ := idx_w h.A1 h.C1 hi hk
  unfold i_Matrix_set_02o
  rw [e1, olet_eq, e2, olet_eq, setAt?_n x (h.lt hi hk), obind_eq]
theorem i_mul_eq (a b : F) : i_mul a b = some (fop .mul .f32 a b) := rfl
theorem getD_of_lt {α : Type} {l : List α} {n : Nat} (d : α) (h : n < l.length) : l[n]? = some (l.getD n d) := by simp [List.getD, h]
theorem mat_valid {A C : Nat} {L : List F} (h : Mat A C L) (hA : 0 < A) (hC : 0 < C) : validM (A : Int) (C : Int) L = L.all fin32 := by
  unfold validM side
  have hAC := small_mul h.A1 h.C1
  have h1 := h.A1
  have h2 := h.C1
  rw [← Int.natCast_mul, wn (by omega), h.len]
  have e1 : decide ((1 : Int) ≤ (A : Int)) = true := by simp; omega
  have e2 : decide ((A : Int) ≤ 12) = true := by simp; omega
  have e3 : decide ((1 : Int) ≤ (C : Int)) = true := by simp; omega
  have e4 : decide ((C : Int) ≤ 12) = true := by simp; omega
  rw [e1, e2, e3, e4]
  simp
theorem i_newMatrix_eq {A C : Nat} (hA : A ≤ 12) (hC : C ≤ 12) : i_newMatrix (A : Int) (C : Int) = some ((A : Int), (C : Int), List.replicate (A * C) (some 0)) := by
  have hAC := small_mul hA hC
  unfold i_newMatrix
  have mk : mkok 4 ((A * C : Nat) : Int) = true := by simp [mkok]; omega
  rw [← Int.natCast_mul, wn (by omega), olet_eq, mk]; rfl
def fillR (f : Nat → Nat → F) (C i : Nat) (L : List F) : List F := run (fun k L => sm L C i k (f i k)) 0 C L
def fillA (f : Nat → Nat → F) (A C : Nat) (L : List F) : List F := run (fillR f C) 0 A L
theorem fillR_spec {f : Nat → Nat → F} {A C i : Nat} {L : List F} (h : Mat A C L) (hi : i < A) : Mat A C (fillR f C i L) ∧ ∀ j k, j < A → k < C → gm none (fillR f C i L) C j k = if j = i then f i k else gm none L C j k := by
  have := run_inv (f := fun k L => sm L C i k (f i k)) (fun c L' => Mat A C L' ∧ ∀ j k, j < A → k < C → gm none L' C j k = if j = i ∧ k < c then f i k else gm none L C j k) C 0 L ⟨h, fun j k _ _ => by simp⟩ (fun c L' _ hc hI => by
    refine ⟨hI.1.set _ _ _, fun j k hj hk => ?_⟩
    rw [gm_set hI.1 hi (by omega) hk, hI.2 j k hj hk]
    by_cases e1 : i = j
    · subst e1
      by_cases e2 : c = k
      · subst e2; simp
      · by_cases e3 : k < c
        · rw [if_neg (by omega), if_pos (by omega), if_pos (by omega)]
        · rw [if_neg (by omega), if_neg (by omega), if_neg (by omega)]
    · rw [if_neg (by omega), if_neg (by omega), if_neg (by omega)])
  refine ⟨this.1, fun j k hj hk => ?_⟩
  unfold fillR
  rw [this.2 j k hj hk]
  by_cases e : j = i
  · rw [if_pos ⟨e, by omega⟩, if_pos e]
  · rw [if_neg (by omega), if_neg e]
theorem fillA_spec {f : Nat → Nat → F} {A C : Nat} {L : List F} (h : Mat A C L) : Mat A C (fillA f A C L) ∧ ∀ j k, j < A → k < C → gm none (fillA f A C L) C j k = f j k := by
  have := run_inv (f := fillR f C) (fun r L' => Mat A C L' ∧ ∀ j k, j < r → j < A → k < C → gm none L' C j k = f j k) A 0 L ⟨h, fun j k hj _ _ => by omega⟩ (fun r L' _ hr hI => by
    obtain ⟨s1, s2⟩ := fillR_spec (f := f) hI.1 (show r < A by omega)
    refine ⟨s1, fun j k hj hjA hk => ?_⟩
    rw [s2 j k hjA hk]
    by_cases e : j = r
    · rw [if_pos e, e]
    · rw [if_neg e]; exact hI.2 j k (by omega) hjA hk)
  exact ⟨this.1, fun j k hj hk => this.2 j k (by omega) hj hk⟩
def tabM (A C : Nat) (f : Nat → Nat → F) : List F := fillA f A C (List.replicate (A * C) (some 0))
theorem zmat {A C : Nat} (hA : A ≤ 12) (hC : C ≤ 12) : Mat A C (List.replicate (A * C) (some 0 : F)) := ⟨hA, hC, by simp⟩
theorem tabM_mat {A C : Nat} {f : Nat → Nat → F} (hA : A ≤ 12) (hC : C ≤ 12) : Mat A C (tabM A C f) := (fillA_spec (zmat hA hC)).1
theorem tabM_gm {A C : Nat} {f : Nat → Nat → F} (hA : A ≤ 12) (hC : C ≤ 12) {i k : Nat} (hi : i < A) (hk : k < C) : gm none (tabM A C f) C i k = f i k := (fillA_spec (zmat hA hC)).2 i k hi hk
theorem run_map {α : Type} (f : Nat → α) : ∀ n : Nat, run (fun i (l : List α) => l ++ [f i]) 0 n [] = (List.range n).map f
  | 0 => rfl
  | n + 1 => by rw [run_last, run_map f n]; simp [List.range_succ]
def dotE (f g : Nat → F) (i : Nat) (y : F) : F := fop .add .f32 y (fop .mul .f32 (f i) (g i))
def dotN (f g : Nat → F) (n : Nat) : F := run (dotE f g) 0 n (some 0)
theorem dotN_congr {f g f' g' : Nat → F} {n : Nat} (h : ∀ i, i < n → f i = f' i ∧ g i = g' i) : dotN f g n = dotN f' g' n :=
  run_congr (fun _ _ => True) n 0 _ trivial fun i y _ hi _ => ⟨by unfold dotE; rw [(h i (by omega)).1, (h i (by omega)).2], trivial⟩
theorem i_dot_eq {l m : List F} (hl : l.length ≤ m.length) (hs : l.length ≤ 1000000) : i_dot l m = some (dotN (fun i => l.getD i none) (fun i => m.getD i none) l.length) := by
  obtain ⟨e, _⟩ := loop_run (step := i_dot_s1 l m) (fun (i : Nat) (y : F) => (y, (i : Int))) (dotE (fun i => l.getD i none) (fun i => m.getD i none)) (fun y => y) (fun _ _ => True) (lo := 0) (n := l.length) (Nat.zero_le _) (s0 := some 0) trivial
    (fun i y _ hi _ => by
      refine ⟨?_, trivial⟩
      show i_dot_b1 _ _ _ _ = _
      unfold i_dot_b1
      rw [dlt hi, bsel_true, at?_n none hi, obind_eq, at?_n none (by omega), obind_eq, i_mul_eq, obind_eq, olet_eq, wsucc (by omega)]
      rfl)
    (fun y _ => by
      show i_dot_b1 _ _ _ _ = _
      unfold i_dot_b1
      rw [dnlt, bsel_false])
  unfold i_dot
  replace e : loopM (i_dot_s1 l m) (some 0, 0) = some (.inl (run (dotE (fun i => l.getD i none) (fun i => m.getD i none)) 0 (l.length - 0) (some 0))) := e
  rw [e]; rfl
theorem sub?_n {α : Type} {L : List α} {a b : Nat} (h1 : a ≤ b) (h2 : b ≤ L.length) : sub? L (a : Int) (b : Int) = some ((L.take b).drop a) := by
  unfold sub?
  rw [if_pos (by omega)]; rfl
abbrev gI (l : List Int) (i : Nat) : Int := l.getD i 0
structure SpIn (S : Nat) (a1 a2 : List Int) : Prop where
  S1 : 1 ≤ S
  S2 : S ≤ 32
  l1 : a1.length = S + 1
  l2 : a2.length ≤ 512
  z : gI a1 0 = 0
  e : gI a1 S = (a2.length : Int)
structure SpGood (S : Nat) (a1 a2 : List Int) : Prop where
  s : ∀ i, i < S → gI a1 i ≤ gI a1 (i + 1)
  c : ∀ k, k < a2.length → 0 ≤ gI a2 k ∧ gI a2 k ≤ (S : Int) - 1
  o : ∀ i, i < S → ∀ k : Nat, gI a1 i < (k : Int) → (k : Int) < gI a1 (i + 1) → gI a2 (k - 1) < gI a2 k
theorem SpGood.mono {S : Nat} {a1 a2 : List Int} (h : SpGood S a1 a2) : ∀ (d i : Nat), i + d ≤ S → gI a1 i ≤ gI a1 (i + d)
  | 0, i, _ => Int.le_refl _
  | d + 1, i, hd => Int.le_trans (h.mono d i (by omega)) (h.s (i + d) (by omega))
theorem SpGood.lo {S : Nat} {a1 a2 : List Int} (h : SpGood S a1 a2) (i0 : SpIn S a1 a2) {i : Nat} (hi : i ≤ S) : 0 ≤ gI a1 i ∧ gI a1 i ≤ (a2.length : Int) := by
  have h1 := h.mono i 0 (by omega)
  have h2 := h.mono (S - i) i (by omega)
  rw [Nat.zero_add, i0.z] at h1
  rw [show i + (S - i) = S by omega, i0.e] at h2
  exact ⟨h1, h2⟩
theorem run_set (g : Nat → F → F) {n : Nat} {L : List F} (h : L.length = n) : run (fun i (L : List F) => L.set i (g i (L.getD i none))) 0 n L = (List.range n).map fun i => g i (L.getD i none) := by
  have := run_inv (f := fun i (L : List F) => L.set i (g i (L.getD i none))) (fun j L' => L'.length = n ∧ ∀ i, i < n → L'.getD i none = if i < j then g i (L.getD i none) else L.getD i none) n 0 L ⟨h, fun i _ => by simp⟩ (fun j L' _ hj hI => by
    refine ⟨by simp [hI.1], fun i hi => ?_⟩
    by_cases e : j = i
    · subst e
      have hl : j < L'.length := by rw [hI.1]; exact hi
      have := hI.2 j hi
      rw [if_neg (by omega)] at this
      rw [if_pos (by omega), List.getD_eq_getElem?_getD, List.getElem?_set_self hl, Option.getD_some, this]
    · have h1 := hI.2 i hi
      rw [List.getD_eq_getElem?_getD, List.getElem?_set_ne e, ← List.getD_eq_getElem?_getD, h1]
      by_cases e2 : i < j
      · rw [if_pos e2, if_pos (by omega)]
      · rw [if_neg e2, if_neg (by omega)])
  rw [Nat.zero_add] at this
  refine List.ext_getElem (by rw [this.1]; simp) fun i h1 h2 => ?_
  have hi : i < n := by rw [← this.1]; exact h1
  have e := this.2 i hi
  rw [if_pos hi, List.getD_eq_getElem?_getD, List.getElem?_eq_getElem h1, Option.getD_some] at e
  rw [e]; simp
structure SpOk (S : Nat) (a1 a2 : List Int) (a3 : List F) : Prop where
  i : SpIn S a1 a2
  g : SpGood S a1 a2
  l : a3.length = a2.length
theorem SpOk.row {S : Nat} {a1 a2 : List Int} {a3 : List F} (h : SpOk S a1 a2 a3) {i : Nat} (hi : i < S) : 0 ≤ gI a1 i ∧ gI a1 i ≤ gI a1 (i + 1) ∧ gI a1 (i + 1) ≤ (a2.length : Int) :=
  ⟨(h.g.lo h.i (by omega)).1, h.g.s i hi, (h.g.lo h.i (i := i + 1) (by omega)).2⟩
def loK (a1 : List Int) (i : Nat) : Nat := (gI a1 i).toNat
def laK (a1 : List Int) (i : Nat) : Nat := (gI a1 (i + 1)).toNat - 1
structure Root (S : Nat) (a1 a2 : List Int) (a3 : List F) : Prop where
  ok : SpOk S a1 a2 a3
  low : ∀ i, i < S → gI a1 i ≤ gI a1 (i + 1) - 1 ∧ gI a2 (laK a1 i) = (i : Int)
theorem Root.at {S : Nat} {a1 a2 : List Int} {a3 : List F} (h : Root S a1 a2 a3) {i : Nat} (hi : i < S) : loK a1 i ≤ laK a1 i ∧ laK a1 i < a2.length ∧ ((laK a1 i : Nat) : Int) = gI a1 (i + 1) - 1 ∧ ((loK a1 i : Nat) : Int) = gI a1 i := by
  obtain ⟨r1, r2, r3⟩ := h.ok.row hi
  obtain ⟨q1, _⟩ := h.low i hi
  unfold loK laK
  omega
def vget (v : List F) (x : Int) : F := v.getD x.toNat none
def Names (n : Nat) (L : List Int) : Prop := ∀ x ∈ L, 0 ≤ x ∧ x < (n : Int)
theorem Names.at {n : Nat} {L : List Int} (h : Names n L) {j : Nat} (hj : j < L.length) : 0 ≤ L.getD j 0 ∧ L.getD j 0 < (n : Int) := by
  rw [List.getD_eq_getElem?_getD, List.getElem?_eq_getElem hj]
  exact h _ (List.getElem_mem hj)
theorem Names.set {n : Nat} {L : List Int} (h : Names n L) {j : Nat} {x : Int} (hx : 0 ≤ x ∧ x < (n : Int)) : Names n (L.set j x) := fun y hy => (List.mem_or_eq_of_mem_set hy).elim (fun k => h y k) (fun k => by rw [k]; exact hx)
theorem vget_mem {v : List F} {x : Int} (h0 : 0 ≤ x) (h1 : x < (v.length : Int)) : vget v x ∈ v := by
  unfold vget
  rw [List.getD_eq_getElem?_getD, List.getElem?_eq_getElem (by omega)]
  exact List.getElem_mem _
def wkey (c : F) : Nat := c.getD 0
def sqW (v : List F) (x : Int) : Nat := wkey (vget v x)
def SqOk (v : List F) : Prop := ∀ c ∈ v, ∃ b, c = some b ∧ b ≤ 2139095040
theorem SqOk.at {v : List F} (h : SqOk v) {x : Int} (h0 : 0 ≤ x) (h1 : x < (v.length : Int)) : vget v x = some (sqW v x) ∧ sqW v x ≤ 2139095040 := by
  obtain ⟨b, e, hb⟩ := h _ (vget_mem h0 h1)
  unfold sqW
  rw [e]; exact ⟨rfl, hb⟩
def vecB (b : List F) : Bool := decide (1 ≤ b.length) && (decide (b.length ≤ 256) && b.all fin32)
theorem s_l02Vector_eq {b : List F} (g : FOks b) (s : b.length ≤ 1048576) : s_l02Vector b = some (vecB b) := by
  unfold s_l02Vector vecB
  by_cases h1 : 1 ≤ b.length
  · rw [decide_eq_true h1, decide_eq_true (show (1 : Int) ≤ (b.length : Int) by omega), bsel_true, Bool.true_and]
    by_cases h2 : b.length ≤ 256
    · rw [decide_eq_true h2, decide_eq_true (show (b.length : Int) ≤ 256 by omega), bsel_true, Bool.true_and, s_l02Finite_eq g s, obind_eq]
    · rw [decide_eq_false h2, decide_eq_false (show ¬ (b.length : Int) ≤ 256 by omega), bsel_false, Bool.false_and]
  · rw [decide_eq_false h1, decide_eq_false (show ¬ (1 : Int) ≤ (b.length : Int) by omega), bsel_false, Bool.false_and]
theorem s_l02Dot_dotN {l m : List F} (h : l.length ≤ m.length) (hl : l.length ≤ 1000000) : s_l02Dot l m = some (dotN (fun i => l.getD i none) (fun i => m.getD i none) l.length) := by
  obtain ⟨e, _⟩ := loop_run (step := s_l02Dot_s1 l m) (fun (i : Nat) (y : F) => (y, (i : Int))) (dotE (fun i => l.getD i none) (fun i => m.getD i none)) (fun y => y) (fun _ _ => True) (lo := 0) (n := l.length) (Nat.zero_le _) (s0 := some 0) trivial
    (fun i y _ hi _ => by
      refine ⟨?_, trivial⟩
      show s_l02Dot_b1 _ _ _ _ = _
      unfold s_l02Dot_b1
      rw [dlt hi, bsel_true, at?_n none hi, obind_eq, at?_n none (by omega), obind_eq, olet_eq, olet_eq, wsucc (by omega)]
      rfl)
    (fun y _ => by
      show s_l02Dot_b1 _ _ _ _ = _
      unfold s_l02Dot_b1
      rw [dnlt, bsel_false])
  unfold s_l02Dot
  replace e : loopM (s_l02Dot_s1 l m) (some 0, 0) = some (.inl (run (dotE (fun i => l.getD i none) (fun i => m.getD i none)) 0 (l.length - 0) (some 0))) := e
  rw [e]; rfl
theorem wi64 {n : Int} (h0 : -9000000000000000000 ≤ n) (h1 : n ≤ 9000000000000000000) : IntKind.i64.wrap n = n := wrap_i64 (by omega) (by omega)
theorem u64_wrap {n : Int} (h0 : 0 ≤ n) (h1 : n < 18446744073709551616) : IntKind.u64.wrap n = n := by
  simp only [IntKind.wrap, IntKind.bits, IntKind.signed]
  simp
  omega
def Byt (l : List Int) : Prop := ∀ z ∈ l, 0 ≤ z ∧ z < 256
theorem byt_of {l : List Int} (h : ∀ z ∈ l, (Lit.int .u8 z).wf = true) : Byt l := by
  intro z hz
  have := h z hz
  have e0 : IntKind.u8.min = 0 := by decide
  have e1 : IntKind.u8.max = 255 := by decide
  simp only [Lit.wf, e0, e1, Bool.and_eq_true, decide_eq_true_eq] at this
  constructor <;> omega
theorem iand255 (x : Int) : ∃ d : Nat, d < 256 ∧ iand .u64 x 255 = (d : Int) := by
  have hle : (BitVec.ofInt 64 x &&& BitVec.ofInt 64 255).toNat ≤ 255 := by
    rw [BitVec.toNat_and, show (BitVec.ofInt 64 255).toNat = 255 from by decide]
    exact Nat.and_le_right
  refine ⟨_, Nat.lt_of_le_of_lt hle (by decide), ?_⟩
  show IntKind.u64.wrap (((BitVec.ofInt 64 x &&& BitVec.ofInt 64 255).toNat : Nat) : Int) = _
  exact u64_wrap (by omega) (by omega)
theorem src_k1 {a : List Int} {t v : Nat} {s : Int} (ht : t ≤ 1000000) (hv : v < 256) : ∃ (w : Nat) (s' : Int), w < 256 ∧ s_l00Src_next_0p0_C0_k1 a (t : Int) s (v : Int) = some ((w : Int), ((t + 1 : Nat) : Int), s') := by
  unfold s_l00Src_next_0p0_C0_k1
  simp only [olet_eq]
  rw [wsucc (by omega)]
  generalize IntKind.u64.wrap (IntKind.u64.wrap (IntKind.u64.wrap (s * 6364136223846793005) + IntKind.u64.wrap (v : Int)) + 1442695040888963407) = X
  by_cases h : t + 1 ≤ a.length
  · rw [decide_eq_true (by omega), bsel_true]; exact ⟨v, _, hv, rfl⟩
  · obtain ⟨d, hd, e⟩ := iand255 (ishr .u64 X 40)
    rw [decide_eq_false (by omega), bsel_false, show decide ((0 : Int) ≤ 40) = true from rfl, need_true, e, wi64 (by omega) (by omega)]
    exact ⟨d, _, hd, rfl⟩
theorem src_next {a : List Int} (ha : Byt a) {t : Nat} (ht : t ≤ 1000000) (s : Int) : ∃ (v : Nat) (s' : Int), v < 256 ∧ s_l00Src_next_0p0_C0 a (t : Int) s = some ((v : Int), ((t + 1 : Nat) : Int), s') := by
  by_cases h : t < a.length
  · obtain ⟨x, hx⟩ : ∃ x, a[t]? = some x := ⟨_, List.getElem?_eq_getElem h⟩
    obtain ⟨x0, x1⟩ := ha x (List.mem_of_getElem? hx)
    have e : s_l00Src_next_0p0_C0 a (t : Int) s = s_l00Src_next_0p0_C0_k1 a (t : Int) s ((x.toNat : Nat) : Int) := by
      unfold s_l00Src_next_0p0_C0
      rw [decide_eq_true (by omega), bsel_true, at?_of (by omega) (by rw [show (t : Int).toNat = t from by omega]; exact hx), obind_eq, olet_eq, wi64 (by omega) (by omega)]
      congr 1; omega
    rw [e]; exact src_k1 ht (by omega)
  · have e : s_l00Src_next_0p0_C0 a (t : Int) s = s_l00Src_next_0p0_C0_k1 a (t : Int) s ((0 : Nat) : Int) := by
      unfold s_l00Src_next_0p0_C0
      rw [decide_eq_false (by omega), bsel_false]
      congr 1
    rw [e]; exact src_k1 ht (by decide)
theorem src_pick {a : List Int} (ha : Byt a) {n t : Nat} (h1 : 1 ≤ n) (h2 : n ≤ 200) (ht : t ≤ 1000000) (s : Int) : ∃ (v t' : Nat) (s' : Int), v < n ∧ t' ≤ t + 1 ∧ s_l00Src_pick_0p0_C0 (n : Int) a (t : Int) s = some ((v : Int), (t' : Int), s') := by
  unfold s_l00Src_pick_0p0_C0
  by_cases h : n ≤ 1
  · rw [decide_eq_true (by omega), bsel_true]; exact ⟨0, t, s, by omega, by omega, rfl⟩
  · obtain ⟨v, s', hv, e⟩ := src_next ha ht s
    rw [decide_eq_false (by omega), bsel_false, e, obind3_eq, decide_eq_false (by omega), bsel_false]
    unfold s_l00Src_pick_0p0_C0_k1
    rw [decide_eq_false (by omega), Bool.not_false, need_true]
    simp only [olet_eq]
    refine ⟨v % n, t + 1, s', Nat.mod_lt _ (by omega), Nat.le_refl _, ?_⟩
    rw [Int.tmod_eq_emod_of_nonneg (by omega), Int.natCast_emod]
def Qd (x : F) : Prop := ∃ q : Int, q.natAbs ≤ 16 ∧ Dy .f32 2 q x
open Classical in
noncomputable def qv (x : F) : Int := if h : Qd x then h.choose else 0
theorem qv_le (x : F) : (qv x).natAbs ≤ 16 := by
  unfold qv
  split
  · rename_i h; exact h.choose_spec.1
  · decide
theorem qd_dy {x : F} (h : Qd x) : Dy .f32 2 (qv x) x := by
  unfold qv
  rw [dif_pos h]; exact h.choose_spec.2
theorem four_dy : Dy .f32 0 4 (some 1082130432) := by
  have e : fint .f32 4 = some 1082130432 := by decide +kernel
  rw [← e]; exact Dy.int (by decide)
theorem quarter {n : Int} (h : n.natAbs ≤ 16) : Qd (fop .quo .f32 (fint .f32 n) (some 1082130432)) := by
  have hd : (2 : Nat) ^ dgn .f32 = 16777216 := by decide
  have h1 : Dy .f32 0 n (fint .f32 n) := Dy.int (by omega)
  have h2 := h1.scale (t := 2) (by decide)
  exact ⟨n, h, Dy.quo (s := 2) (t := 0) h2 four_dy (by decide) (by omega) (by omega)⟩
structure QM (A C : Nat) (L : List F) : Prop where
  m : Mat A C L
  q : ∀ x ∈ L, Qd x
theorem QM.at {A C : Nat} {L : List F} (h : QM A C L) {i k : Nat} (hi : i < A) (hk : k < C) : Qd (gm none L C i k) := by
  have := h.m.lt hi hk
  unfold gm
  exact h.q _ (List.mem_of_getElem? (getD_of_lt none this))
theorem QM.fin {A C : Nat} {L : List F} (h : QM A C L) : L.all fin32 = true := List.all_eq_true.2 fun x hx => (qd_dy (h.q x hx)).fin
theorem mem_gm {A C : Nat} {L : List F} (h : Mat A C L) {x : F} (hx : x ∈ L) : ∃ i k, i < A ∧ k < C ∧ x = gm none L C i k := by
  obtain ⟨q, hq, rfl⟩ := List.mem_iff_getElem.1 hx
  have hq' : q < A * C := by rw [← h.len]; exact hq
  have hC : 0 < C := by
    rcases Nat.eq_zero_or_pos C with h0 | h0
    · subst h0; simp at hq'
    · exact h0
  have h3 : q / C * C + q % C = q := by rw [Nat.mul_comm]; exact Nat.div_add_mod q C
  refine ⟨q / C, q % C, (Nat.div_lt_iff_lt_mul hC).2 hq', Nat.mod_lt _ hC, ?_⟩
  unfold gm
  rw [h3]
  simp [List.getD, hq]
theorem sub_getD {l : List F} {v to j : Nat} (hj : v + j < to) : ((l.take to).drop v).getD j none = l.getD (v + j) none := by
  simp [List.getD, List.getElem?_drop, List.getElem?_take, hj]
theorem loop_all {n : Nat} {step : Int → Option (LR Int Unit Bool)} (hn : n ≤ 1000000) (hs : ∀ i : Nat, i < n → step (i : Int) = some (.next ((i + 1 : Nat) : Int))) (he : step (n : Int) = some (.out ())) : loopM step 0 = some (.inl ()) :=
  (loop_run (step := step) (fun (i : Nat) (_ : Unit) => (i : Int)) (fun _ u => u) (fun _ => ()) (fun _ _ => True) (lo := 0) (n := n) (Nat.zero_le _) (s0 := ()) trivial (fun i _ _ hi _ => ⟨hs i hi, trivial⟩) (fun _ _ => he)).1
def cE : Rat := 3 / 100000
noncomputable def vm (n : Nat) (R : List F) (i k : Nat) : Rat := vl (gm none R n i k)
theorem dotN_near {f g : Nat → F} {P S e : Rat} : ∀ {n : Nat}, n ≤ 16 → (∀ j, j < n → Fv (f j) ∧ Fv (g j) ∧ Ab (vl (f j) * vl (g j)) P) → (∀ j, j ≤ n → Ab (rs (fun t => vl (f t) * vl (g t)) j) S) → P ≤ 100000 → S ≤ 100000 → e32 P + e32 (S + 16 * e + e32 P) ≤ e → 0 ≤ e → e ≤ 1 →
    Fv (dotN f g n) ∧ Ab (vl (dotN f g n) - rs (fun t => vl (f t) * vl (g t)) n) ((n : Rat) * e)
  | 0, _, _, _, _, _, _, e0, _ => by
    refine ⟨fv_zero.1, ?_⟩
    show Ab (vl (some 0) - 0) ((0 : Nat) * e)
    rw [fv_zero.2]
    exact ⟨by simp; grind, by simp; grind⟩
  | n + 1, hn, h, hS, hP, hS1, he, e0, e1 => by
    obtain ⟨i1, i2⟩ := dotN_near (n := n) (by omega) (fun j hj => h j (by omega)) (fun j hj => hS j (by omega)) hP hS1 he e0 e1
    obtain ⟨f1, f2, f3⟩ := h n (by omega)
    have e2 : dotN f g (n + 1) = fop .add .f32 (dotN f g n) (fop .mul .f32 (f n) (g n)) := by
      unfold dotN
      rw [run_last, Nat.zero_add]; rfl
    rw [e2]
    have hs := hS (n + 1) (Nat.le_refl _)
    have e3 : rs (fun t => vl (f t) * vl (g t)) (n + 1) = rs (fun t => vl (f t) * vl (g t)) n + vl (f n) * vl (g n) := rfl
    rw [e3] at hs ⊢
    generalize rs (fun t => vl (f t) * vl (g t)) n = T at *
    generalize dotN f g n = z at *
    have hn16 : (n : Rat) ≤ 16 := by exact_mod_cast (show n ≤ 16 by omega)
    have hne : (n : Rat) * e ≤ 16 * e := Rat.mul_le_mul_of_nonneg_right hn16 e0
    have hM : Ab (vl z + vl (f n) * vl (g n)) (S + 16 * e) := by
      have := (i2.mono hne).add hs
      rw [show vl z - T + (T + vl (f n) * vl (g n)) = vl z + vl (f n) * vl (g n) from by grind] at this
      exact this.mono (by grind)
    obtain ⟨r1, r2⟩ := fv_addmul i1 f1 f2 f3 hM (by grind) (by grind) he
    refine ⟨r1, ?_⟩
    have := r2.add i2
    rw [show vl (fop .add .f32 z (fop .mul .f32 (f n) (g n))) - (vl z + vl (f n) * vl (g n)) + (vl z - T) = vl (fop .add .f32 z (fop .mul .f32 (f n) (g n))) - (T + vl (f n) * vl (g n)) from by grind] at this
    exact this.mono (by push_cast; grind)
theorem c001 : ∃ q, Rv .f64 q (some 4562254508917369340) ∧ 999 / 1000000 ≤ q := by
  have h : Dy .f64 1074 (fval .f64 4562254508917369340) (some 4562254508917369340) := ⟨_, rfl, by decide +kernel, by decide +kernel, by decide, by rw [show lpn .f64 - 1074 = 0 from by decide]; simp⟩
  have := Rv.of_dy h
  refine ⟨_, this, ?_⟩
  decide +kernel
theorem e64_le {M : Rat} (h : M ≤ 1000000) (h0 : 0 ≤ M) : er .f64 M ≤ 1 / 1000000000 := by
  have ep64 : ep .f64 = 1 / 4503599627370496 := by decide +kernel
  have et64 : et .f64 ≤ 1 / 1000000000000000 := by decide +kernel
  unfold er
  rw [ep64]; grind
theorem gap_near {x y : F} {p q e : Rat} (hx : Rv .f64 p x) (hy : Rv .f64 q y) (h : Ab (p - q) e) (he : e ≤ 1000000) : ∃ z g, w_b10Gap x y = some z ∧ Rv .f64 g z ∧ Ab g (e + 1 / 1000000000) := by
  have e0 := h.nonneg
  unfold w_b10Gap
  rw [(hx.ord hy).1]
  by_cases hlt : p < q
  · rw [decide_eq_true hlt, bsel_true, olet_eq]
    have h2 : Ab (q - p) e := by have := h.neg; rw [show -(p - q) = q - p from by grind] at this; exact this
    obtain ⟨g, g1, g2⟩ := hy.sub hx h2 (big60 (by grind))
    refine ⟨_, g, rfl, g1, ?_⟩
    have := (g2.mono (e64_le he e0)).add h2
    rw [show g - (q - p) + (q - p) = g from by grind] at this
    exact this.mono (by grind)
  · rw [decide_eq_false hlt, bsel_false, olet_eq]
    obtain ⟨g, g1, g2⟩ := hx.sub hy h (big60 (by grind))
    refine ⟨_, g, rfl, g1, ?_⟩
    have := (g2.mono (e64_le he e0)).add h
    rw [show g - (p - q) + (p - q) = g from by grind] at this
    exact this.mono (by grind)
theorem gap_le {x y : F} {p q : Rat} (hx : Rv .f64 p x) (hy : Rv .f64 q y) (h : Ab (p - q) (998 / 1000000)) : ∃ z, w_b10Gap x y = some z ∧ fle .f64 z (some 4562254508917369340) = true ∧ flt .f64 (some 4562254508917369340) z = false := by
  obtain ⟨z, g, e, g1, g2⟩ := gap_near hx hy h (by decide +kernel)
  obtain ⟨c, c1, c2⟩ := c001
  refine ⟨z, e, ?_, ?_⟩
  · rw [(g1.ord c1).2.1, decide_eq_true]; have := g2.2; grind
  · rw [(c1.ord g1).1, decide_eq_false]; have := g2.2; grind
theorem far_no {a b : List F} (hl : a.length = b.length) (hs : a.length ≤ 1000000) (h : ∀ i, i < a.length → Fv (a.getD i none) ∧ Fv (b.getD i none) ∧ Ab (vl (a.getD i none) - vl (b.getD i none)) (998 / 1000000)) : w_b10Far a b (some 4562254508917369340) = some false := by
  unfold w_b10Far
  rw [hl, decide_eq_true rfl, Bool.not_true, bsel_false]
  have e := (loop_run (step := w_b10Far_s1 a b (some 4562254508917369340)) (fun (i : Nat) (_ : Unit) => (i : Int)) (fun _ u => u) (fun _ => ()) (fun _ _ => True) (lo := 0) (n := a.length) (Nat.zero_le _) (s0 := ()) trivial
    (fun i _ _ hi _ => by
      refine ⟨?_, trivial⟩
      show w_b10Far_b1 a b _ (i : Int) = _
      obtain ⟨f1, f2, f3⟩ := h i hi
      obtain ⟨z, z1, z2, _⟩ := gap_le f1.rv.widen f2.rv.widen f3
      unfold w_b10Far_b1
      rw [dlt hi, bsel_true, at?_n none hi, obind_eq, olet_eq, at?_n none (by omega), obind_eq, olet_eq, z1, obind_eq, z2, bsel_true, olet_eq, wsucc (by omega)])
    (fun _ _ => by
      show w_b10Far_b1 a b _ (a.length : Int) = _
      unfold w_b10Far_b1
      rw [dnlt, bsel_false])).1
  have e : loopM (w_b10Far_s1 a b (some 4562254508917369340)) 0 = some (.inl ()) := e
  rw [e]; rfl
theorem s_Times_eq {A B : Nat} {L x : List F} (m : Mat A B L) (hx : x.length = B) : s_l02Times (A : Int) (B : Int) L x = some ((List.range A).map fun i => dotN (fun k => gm none L B i k) (fun k => x.getD k none) B) := by
  have hA := m.A1
  have hB := m.C1
  unfold s_l02Times
  have e := (loop_run (step := s_l02Times_s1 (A : Int) (B : Int) L x) (fun (i : Nat) (l : List F) => (l, (i : Int))) (fun i l => l ++ [dotN (fun k => gm none L B i k) (fun k => x.getD k none) B]) (fun l => l) (fun i l => l.length = i) (lo := 0) (n := A) (Nat.zero_le _) (s0 := []) rfl
    (fun i l _ hi h3 => by
      refine ⟨?_, by simp [h3]⟩
      show s_l02Times_b1 _ _ _ _ _ _ = _
      unfold s_l02Times_b1
      have ap : apok 4 l.length 1 = true := by simp [apok]; omega
      have hiB : i * B ≤ 144 := Nat.le_trans (Nat.mul_le_mul (show i ≤ 12 by omega) hB) (by decide)
      have hiB2 : (i + 1) * B ≤ 156 := Nat.le_trans (Nat.mul_le_mul (show i + 1 ≤ 13 by omega) hB) (by decide)
      have hin : (i + 1) * B ≤ L.length := by rw [m.len]; exact Nat.mul_le_mul_right _ (by omega)
      have hle : i * B ≤ (i + 1) * B := Nat.mul_le_mul_right _ (by omega)
      have sl : sub? L ((i * B : Nat) : Int) (((i + 1) * B : Nat) : Int) = some ((L.take ((i + 1) * B)).drop (i * B)) := sub?_n hle hin
      have ll : ((L.take ((i + 1) * B)).drop (i * B)).length = B := by rw [List.length_drop, List.length_take, Nat.min_eq_left hin, Nat.add_mul, Nat.one_mul]; omega
      rw [dlt hi, bsel_true, ← Int.natCast_mul, wn (by omega), olet_eq, wsucc (by omega), olet_eq, ← Int.natCast_mul, wn (by omega), olet_eq, sl, obind_eq, s_l02Dot_dotN (by omega) (by omega), obind_eq, ap, need_true, olet_eq, ll]
      have ed : dotN (fun j => ((L.take ((i + 1) * B)).drop (i * B)).getD j none) (fun j => x.getD j none) B = dotN (fun k => gm none L B i k) (fun k => x.getD k none) B :=
        dotN_congr fun j hj => ⟨by unfold gm; rw [sub_getD (by rw [Nat.add_mul, Nat.one_mul]; omega)], rfl⟩
      rw [ed])
    (fun l _ => by
      show s_l02Times_b1 _ _ _ _ _ _ = _
      unfold s_l02Times_b1
      rw [dnlt, bsel_false])).1
  rw [Nat.sub_zero, run_map] at e
  have e : loopM (s_l02Times_s1 (A : Int) (B : Int) L x) ([], 0) = some (.inl _) := e
  rw [e]; rfl
theorem s_TimesVector_fv {A B : Nat} {L x : List F} (m : Mat A B L) (hA : 0 < A) (hB : 0 < B) (fL : ∀ y ∈ L, Fv y) (hx : x.length = B) (fx : ∀ y ∈ x, Fv y) (fd : ∀ i, i < A → Fv (dotN (fun k => gm none L B i k) (fun k => x.getD k none) B)) :
    s_TimesVector (A : Int) (B : Int) L x = some (true, (List.range A).map fun i => dotN (fun k => gm none L B i k) (fun k => x.getD k none) B) := by
  have hA1 := m.A1
  have hB1 := m.C1
  have gL : FOks L := fun y hy => (fL y hy).fok
  have gx : FOks x := fun y hy => (fx y hy).fok
  have aL : L.all fin32 = true := List.all_eq_true.2 fun y hy => (fL y hy).fin
  have ax : x.all fin32 = true := List.all_eq_true.2 fun y hy => (fx y hy).fin
  have fl : ∀ y ∈ ((List.range A).map fun i => dotN (fun k => gm none L B i k) (fun k => x.getD k none) B), Fv y := fun y hy => by
    obtain ⟨i, hi, rfl⟩ := List.mem_map.1 hy
    exact fd i (List.mem_range.1 hi)
  generalize hl : ((List.range A).map fun i => dotN (fun k => gm none L B i k) (fun k => x.getD k none) B) = l at *
  have ll : l.length = A := by rw [← hl]; simp
  unfold s_TimesVector
  rw [s_l02Is_eq _ _ gL m.le, mat_valid m hA hB, aL, obind_eq, bsel_true, s_l02Vector_eq gx (by omega), obind_eq]
  have hv : vecB x = true := by unfold vecB; rw [hx, decide_eq_true (by omega), decide_eq_true (by omega), ax]; rfl
  rw [hv, bsel_true, hx, decide_eq_true rfl, Bool.not_true, bsel_false, s_Times_eq m hx, hl, obind_eq]
  unfold s_l02List_0o
  rw [s_l02Finite_eq (fun y hy => (fl y hy).fok) (by omega), obind_eq, show l.all fin32 = true from List.all_eq_true.2 fun y hy => (fl y hy).fin, bsel_true, obind_eq, osum_inl, obind2_eq, decide_eq_true rfl, need_true]
theorem b10at {a : List Int} (ha : Byt a) {k n : Nat} (h1 : 1 ≤ n) (hk : k ≤ 1000) : ∃ v : Nat, v < n ∧ w_b10At a (k : Int) (n : Int) = some (v : Int) := by
  unfold w_b10At
  by_cases h : n ≤ 1
  · rw [decide_eq_true (by omega), bsel_true]; exact ⟨0, by omega, rfl⟩
  · rw [decide_eq_false (by omega), bsel_false]
    by_cases hl : k < a.length
    · obtain ⟨x, hx⟩ : ∃ x, a[k]? = some x := ⟨_, List.getElem?_eq_getElem hl⟩
      obtain ⟨x0, x1⟩ := ha x (List.mem_of_getElem? hx)
      rw [decide_eq_true (by omega), bsel_true, at?_of (by omega) (by rw [show (k : Int).toNat = k from by omega]; exact hx), obind_eq]
      simp only [olet_eq]
      rw [wi64 (by omega) (by omega), decide_eq_false (by omega), Bool.not_false, need_true]
      refine ⟨x.toNat % n, Nat.mod_lt _ (by omega), ?_⟩
      rw [Int.tmod_eq_emod_of_nonneg (by omega), Int.natCast_emod, show ((x.toNat : Nat) : Int) = x from by omega]
    · rw [decide_eq_false (by omega), bsel_false]
      simp only [olet_eq]
      rw [show IntKind.i64.wrap ((k : Int) * 37) = (k : Int) * 37 from wi64 (by omega) (by omega), show IntKind.i64.wrap ((k : Int) * 37 + 11) = (k : Int) * 37 + 11 from wi64 (by omega) (by omega), decide_eq_false (by omega), Bool.not_false, need_true]
      refine ⟨(k * 37 + 11) % n, Nat.mod_lt _ (by omega), ?_⟩
      rw [Int.tmod_eq_emod_of_nonneg (by omega), Int.natCast_emod]
      push_cast; rfl
theorem b10long {a b : List Int} : ∃ r, w_b10Long a b = some r := by
  unfold w_b10Long
  cases decide (1048576 < (a.length : Int)) with
  | true => exact ⟨_, rfl⟩
  | false => exact ⟨_, rfl⟩
theorem quarter_dy {n : Int} (h : n.natAbs ≤ 1000) : Dy .f32 2 n (fop .quo .f32 (fint .f32 n) (some 1082130432)) := by
  have hd : (2 : Nat) ^ dgn .f32 = 16777216 := by decide
  have h1 : Dy .f32 0 n (fint .f32 n) := Dy.int (by omega)
  have h2 := h1.scale (t := 2) (by decide)
  exact Dy.quo (s := 2) (t := 0) h2 four_dy (by decide) (by omega) (by omega)
theorem b10v_loop {a : List Int} (ha : Byt a) : ∀ (m t : Nat) (L : List F) (s : Int), t + m ≤ 800000 → L.length + m ≤ 1000 →
    ∃ (L' : List F), L'.length = m ∧ (∀ x ∈ L', Qd x) ∧ loopM (s_B10Vector_s1 a) (L, (t : Int), s, (m : Int)) = some (.inl (L ++ L'))
  | 0, t, L, s, ht, hL => by
    refine ⟨[], rfl, fun x hx => by simp at hx, ?_⟩
    rw [loopM_out (e := L)]
    · simp
    · show s_B10Vector_b1 a L (t : Int) s ((0 : Nat) : Int) = _
      unfold s_B10Vector_b1
      rw [decide_eq_false (by omega), bsel_false]
  | m + 1, t, L, s, ht, hL => by
    obtain ⟨v, t1, s1, hv, ht1, e⟩ := src_pick ha (n := 33) (t := t) (by decide) (by decide) (by omega) s
    have e : s_l00Src_pick_0p0_C0 33 a (t : Int) s = _ := e
    have st : s_B10Vector_s1 a (L, (t : Int), s, ((m + 1 : Nat) : Int)) = some (.next (L ++ [fop .quo .f32 (fint .f32 ((v : Int) - 16)) (some 1082130432)], (t1 : Int), s1, (m : Int))) := by
      show s_B10Vector_b1 a L (t : Int) s ((m + 1 : Nat) : Int) = _
      unfold s_B10Vector_b1
      rw [decide_eq_true (by omega), bsel_true, e, obind3_eq]
      simp only [olet_eq]
      rw [wi64 (by omega) (by omega), show apok 4 L.length 1 = true from by simp only [apok, Bool.and_eq_true, decide_eq_true_eq]; omega, need_true, wi64 (by omega) (by omega), show ((m + 1 : Nat) : Int) - 1 = (m : Int) from by omega]
    obtain ⟨L', h1, h3, h4⟩ := b10v_loop ha m t1 (L ++ [fop .quo .f32 (fint .f32 ((v : Int) - 16)) (some 1082130432)]) s1 (by omega) (by simp; omega)
    refine ⟨fop .quo .f32 (fint .f32 ((v : Int) - 16)) (some 1082130432) :: L', by simp [h1], ?_, ?_⟩
    · intro x hx
      rcases List.mem_cons.1 hx with rfl | hx
      · exact quarter (by omega)
      · exact h3 x hx
    · rw [loopM_next st, h4]; simp
theorem b10vector {a : List Int} (ha : Byt a) {n : Nat} (hn : n ≤ 500) : ∃ L : List F, L.length = n ∧ (∀ x ∈ L, Qd x) ∧ s_B10Vector a (n : Int) = some L := by
  obtain ⟨L, h1, h2, h3⟩ := b10v_loop ha n 0 [] 0 (by omega) (by simp; omega)
  refine ⟨L, h1, h2, ?_⟩
  unfold s_B10Vector s_l00From
  have h3 : loopM (s_B10Vector_s1 a) ([], 0, 0, (n : Int)) = _ := h3
  rw [obind3_eq, h3, obind_eq, osum_inl, List.nil_append]; rfl
theorem qd_fv {x : F} (h : Qd x) : Fv x ∧ Ab (vl x) 4 := by
  have h1 := (qd_dy h).fv
  have h2 := qv_le x
  refine ⟨h1.1, ?_⟩
  rw [h1.2]
  have e : (2 : Rat) ^ 2 = 4 := by decide +kernel
  rw [e]
  have l1 : ((-16 : Int) : Rat) ≤ ((qv x : Int) : Rat) := by exact_mod_cast (show (-16 : Int) ≤ qv x by omega)
  have l2 : ((qv x : Int) : Rat) ≤ ((16 : Int) : Rat) := by exact_mod_cast (show qv x ≤ (16 : Int) by omega)
  have c1 : ((-16 : Int) : Rat) = -16 := by decide +kernel
  have c2 : ((16 : Int) : Rat) = 16 := by decide +kernel
  rw [c1] at l1
  rw [c2] at l2
  generalize ((qv x : Int) : Rat) = q at *
  exact ⟨by grind, by grind⟩
theorem mem_getD {l : List F} {x : F} (h : x ∈ l) : ∃ i, i < l.length ∧ x = l.getD i none := by
  obtain ⟨i, hi, rfl⟩ := List.mem_iff_getElem.1 h
  exact ⟨i, hi, by rw [List.getD_eq_getElem?_getD, List.getElem?_eq_getElem hi]; rfl⟩
def fy : Nat → Rat | 0 => 401 / 100 | 1 => 538 / 100 | 2 => 721 / 100 | 3 => 966 / 100 | _ => 1295 / 100
def fx : Nat → Rat | 0 => 280 / 100 | 1 => 386 / 100 | 2 => 533 / 100 | 3 => 735 / 100 | _ => 1014 / 100
def gx : Nat → Rat | 0 => 317 / 100 | 1 => 425 / 100 | 2 => 570 / 100 | 3 => 764 / 100 | _ => 1024 / 100
structure TrF (n : Nat) (a : Nat → Nat → Rat) (M : List F) : Prop where
  m : Mat n n M
  n5 : n ≤ 5
  fe : ∀ i j, i < n → j < n → Fv (gm none M n i j)
  dia : ∀ i, i < n → 464 / 100 ≤ vm n M i i ∧ vm n M i i ≤ 95 / 10
  up : ∀ i j, i < j → j < n → Ab (vm n M i j) (176 / 100)
  lo : ∀ i j, j < i → i < n → Ab (vm n M i j) (34 / 100)
  prodU : ∀ i j, i ≤ j → j < n → Ab (rs (fun t => vm n M i t * vm n M t j) i + vm n M i j - a i j) cE
  prodL : ∀ i j, j < i → i < n → Ab (rs (fun t => vm n M i t * vm n M t j) (j + 1) - a i j) cE
theorem TrF.fv {n : Nat} {a : Nat → Nat → Rat} {M : List F} (H : TrF n a M) : ∀ x ∈ M, Fv x := fun x hx => by
  obtain ⟨i, j, hi, hj, rfl⟩ := mem_gm H.m hx
  exact H.fe i j hi hj
def prn (x : Nat → Rat) (X : Rat) (a : Nat) : Nat → Rat
  | 0 => 1
  | m + 1 => prn x X a m * (X - x (a + m))
def pX (c : Nat) : Nat → Rat
  | 0 => 1
  | j + 1 => pX c j * (3 / 2 * ((c - j : Nat) : Rat))
def mT : Nat → Rat | 0 => 4 | 1 => 16001 / 1000 | 2 => 32003 / 1000 | 3 => 42672 / 1000 | 4 => 42674 / 1000 | _ => 34142 / 1000
def sT (v : Nat) : Rat := 2 * mT v + h32 (2 * mT v)
def eT (v : Nat) : Rat := h32 (2 * mT v) + sT v / 8388608 + 1 / 10000000000000
def eB (m : Nat) : Rat := rs (fun j => eT j * pX (m - 1) j) m
def eK (k : Nat) : Rat := rs (fun j => eB (j + 1)) k
def hp (d x : Nat → Rat) (X : Rat) (i : Nat) : Nat → Rat
  | 0 => 0
  | m + 1 => hp d x X i m + d (i + m) * prn x X i m
def hB (k : Nat) : Nat → Rat
  | 0 => 4 + eK k
  | i + 1 => (hB k i + mT i) / (((k - i : Nat) : Rat) / 2)
noncomputable def ft (x y : List F) : Nat → Nat → F
  | 0, i => y.getD i none
  | v + 1, i => fop .quo .f32 (fop .sub .f32 (ft x y v i) (ft x y v (i - 1))) (fop .sub .f32 (x.getD i none) (x.getD (i - (v + 1)) none))
theorem loop_go {S ρ ε : Type} {step : S → Option (LR S ε ρ)} (mk : Nat → S) {e : ε} : ∀ (m i : Nat), (∀ j, i ≤ j → j < i + m → step (mk j) = some (.next (mk (j + 1)))) → step (mk (i + m)) = some (.out e) → loopM step (mk i) = some (.inl e)
  | 0, i, _, ho => loopM_out (by rw [Nat.add_zero] at ho; exact ho)
  | m + 1, i, hs, ho => by
    rw [loopM_next (hs i (Nat.le_refl _) (by omega))]
    exact loop_go mk m (i + 1) (fun j h1 h2 => hs j (by omega) (by omega)) (by rw [show i + 1 + m = i + (m + 1) from by omega]; exact ho)
theorem isList_fv {l : List F} (h0 : 0 < l.length) (h1 : l.length ≤ 32) (f : ∀ x ∈ l, Fv x) : i_isList l 32 = some true := by
  unfold i_isList i_length_float32
  rw [obind_eq, i_inRange_eq, decide_eq_true (by omega), decide_eq_true (by omega), Bool.and_self, obind_eq, bsel_true, i_areFinite_eq (fun x hx => (f x hx).fok) (by omega), List.all_eq_true.2 fun x hx => (f x hx).fin, obind_eq]
def pO : Nat → Rat | 0 => 1 | 1 => 1168 / 1000 | 2 => 1403 / 1000 | 3 => 1755 / 1000 | 4 => 2344 / 1000 | 5 => 3534 / 1000 | _ => 72 / 10
def pD : Nat → Rat | 0 => 6 | 1 => 5832 / 1000 | 2 => 5597 / 1000 | 3 => 5245 / 1000 | 4 => 4656 / 1000 | 5 => 3466 / 1000 | _ => -1
def pl : Nat → Rat | 0 => 168 / 1000 | 1 => 201 / 1000 | 2 => 251 / 1000 | 3 => 335 / 1000 | _ => 504 / 1000
structure TrP (n : Nat) (a : Nat → Nat → Rat) (M : List F) : Prop where
  m : Mat n n M
  n5 : n ≤ 6
  fe : ∀ i j, i < n → j < n → Fv (gm none M n i j)
  dia : ∀ i, i < n → pD i - cE ≤ vm n M i i ∧ vm n M i i ≤ 106 / 10
  up : ∀ i j, i < j → j < n → Ab (vm n M i j) (pO i + cE)
  lo : ∀ i j, j < i → i < n → Ab (vm n M i j) (pl j)
  prodU : ∀ i j, i ≤ j → j < n → Ab (rs (fun t => vm n M i t * vm n M t j) i + vm n M i j - a i j) cE
  prodL : ∀ i j, j < i → i < n → Ab (rs (fun t => vm n M i t * vm n M t j) (j + 1) - a i j) cE
theorem TrP.fv {n : Nat} {a : Nat → Nat → Rat} {M : List F} (H : TrP n a M) : ∀ x ∈ M, Fv x := fun x hx => by
  obtain ⟨i, j, hi, hj, rfl⟩ := mem_gm H.m hx
  exact H.fe i j hi hj
theorem dy_flip {s : Nat} {n : Int} {x : F} (h : Dy .f32 s n x) : Dy .f32 s (-n) (fneg .f32 x) := by
  obtain ⟨b, rfl, h1, h2, h3, h4⟩ := h
  have hw : (b ^^^ 2 ^ 31) % 2 ^ 31 = b % 2 ^ 31 := by
    apply Nat.eq_of_testBit_eq
    intro k
    rw [Nat.testBit_mod_two_pow, Nat.testBit_mod_two_pow, Nat.testBit_xor, Nat.testBit_two_pow]
    by_cases hk : k < 31
    · simp [hk, show ¬ 31 = k from by omega]
    · simp [hk]
  have hr : wrung FloatKind.f32.format (b ^^^ 2 ^ 31) = wrung FloatKind.f32.format b := hw
  have hs : wneg FloatKind.f32.format (b ^^^ 2 ^ 31) = !wneg FloatKind.f32.format b := by
    have t1 : ∀ w, wneg FloatKind.f32.format w = w.testBit 31 := fun w => by
      rw [Nat.testBit_eq_decide_div_mod_eq]
      show (w / 2 ^ 31 % 2 == 1) = _
      rw [Bool.beq_eq_decide_eq]
    rw [t1, t1, Nat.testBit_xor, Nat.testBit_two_pow]
    simp
  refine ⟨b ^^^ 2 ^ 31, rfl, Nat.xor_lt_two_pow h1 (by decide), by rw [hr]; exact h2, h3, ?_⟩
  unfold fval at h4 ⊢
  rw [hr, hs, sval_not, h4, Int.neg_mul]
theorem i_made_2Fi_shift_1_mk {A C : Nat} (hA : A ≤ 12) (hC : C ≤ 12) (a2 : List F) {K : Nat → Nat → F} (hK : ∀ i k : Nat, i < A → k < C → i_shift_1 (i : Int) (k : Int) a2 = some (K i k)) : i_made_2Fi_shift_1 (A : Int) (C : Int) a2 = some ((A : Int), (C : Int), tabM A C K) := by
  have inner : ∀ (i : Nat) (L L0 : List F), i < A → Mat A C L → Mat A C L0 → loopM (i_made_2Fi_shift_1_s2 (C : Int) a2 (A : Int) (C : Int) L0 (i : Int)) (L, 0) = some (.inl (fillR K C i L)) := by
    intro i L L0 hi hL hL0
    exact (loop_run (step := i_made_2Fi_shift_1_s2 (C : Int) a2 (A : Int) (C : Int) L0 (i : Int)) (fun (k : Nat) (L : List F) => (L, (k : Int))) (fun k L => sm L C i k (K i k)) (fun L => L) (fun _ L => Mat A C L) (lo := 0) (n := C) (Nat.zero_le _) (s0 := L) hL
      (fun k L2 _ hk h3 => by
        refine ⟨?_, h3.set _ _ _⟩
        show i_made_2Fi_shift_1_b2 (C : Int) a2 (A : Int) (C : Int) L0 (i : Int) L2 (k : Int) = _
        unfold i_made_2Fi_shift_1_b2
        have l1 : decide ((sm L2 C i k (K i k)).length = L0.length) = true := by simp [h3.len, hL0.len]
        rw [dlt hk, bsel_true, hK i k hi hk, obind_eq, i_Matrix_set_02o_eq _ h3 hi hk, obind_eq, l1, need_true, wsucc (by omega)]
        rfl)
      (fun L2 _ => by
        show i_made_2Fi_shift_1_b2 (C : Int) a2 (A : Int) (C : Int) L0 (i : Int) L2 (C : Int) = _
        unfold i_made_2Fi_shift_1_b2
        rw [dnlt, bsel_false])).1
  have e := (loop_run (step := i_made_2Fi_shift_1_s3 (A : Int) (C : Int) a2 (A : Int) (C : Int) (List.replicate (A * C) (some 0))) (fun (i : Nat) (L : List F) => (L, (i : Int))) (fillR K C) (fun L => L) (fun _ L => Mat A C L) (lo := 0) (n := A) (Nat.zero_le _) (s0 := List.replicate (A * C) (some 0)) (zmat hA hC)
    (fun i L2 _ hi h3 => by
      refine ⟨?_, (fillR_spec h3 hi).1⟩
      show i_made_2Fi_shift_1_b3 (A : Int) (C : Int) a2 (A : Int) (C : Int) (List.replicate (A * C) (some 0)) L2 (i : Int) = _
      unfold i_made_2Fi_shift_1_b3
      rw [dlt hi, bsel_true, inner i L2 _ hi h3 (zmat hA hC), obind_eq, osum_inl]
      unfold i_made_2Fi_shift_1_k2
      rw [wsucc (by omega)]
      rfl)
    (fun L2 _ => by
      show i_made_2Fi_shift_1_b3 (A : Int) (C : Int) a2 (A : Int) (C : Int) (List.replicate (A * C) (some 0)) L2 (A : Int) = _
      unfold i_made_2Fi_shift_1_b3
      rw [dnlt, bsel_false])).1
  unfold i_made_2Fi_shift_1
  replace e : loopM (i_made_2Fi_shift_1_s3 (A : Int) (C : Int) a2 (A : Int) (C : Int) (List.replicate (A * C) (some 0))) (List.replicate (A * C) (some 0), 0) = some (.inl (tabM A C K)) := e
  rw [i_newMatrix_eq hA hC, obind3_eq, e]; rfl
def fz (w : Nat) : Int := fval .f32 w
theorem fv_neg {x : F} (h : Fv x) : Fv (fneg .f32 x) ∧ vl (fneg .f32 x) = -vl x := by
  obtain ⟨n, d, e⟩ := h.rv
  have r : Rv .f32 (-vl x) (fneg .f32 x) := ⟨-n, dy_flip d, by rw [Rat.intCast_neg, e]; grind⟩
  exact ⟨r.fv, r.vl⟩
theorem rs_abw {f g : Nat → Rat} : ∀ {n : Nat}, (∀ j, j < n → Ab (f j) (g j)) → Ab (rs f n) (rs g n)
  | 0, _ => by unfold rs; exact ⟨by simp, by simp⟩
  | n + 1, h => by
    unfold rs
    exact (rs_abw (n := n) fun j hj => h j (by omega)).add (h n (by omega))
def cxM (z w : Rat × Rat) : Rat × Rat := (z.1 * w.1 - z.2 * w.2, z.1 * w.2 + z.2 * w.1)
def cxB (z : Rat × Rat) (e : Rat) : Prop := Ab z.1 e ∧ Ab z.2 e
theorem cxB.mono {z : Rat × Rat} {e f : Rat} (h : cxB z e) (hf : e ≤ f) : cxB z f := ⟨h.1.mono hf, h.2.mono hf⟩
theorem cxB.mul {z w : Rat × Rat} {e f : Rat} (h : cxB z e) (g : cxB w f) : cxB (cxM z w) (2 * (e * f)) :=
  ⟨((h.1.mul g.1).sub (h.2.mul g.2)).mono (by grind), ((h.1.mul g.2).add (h.2.mul g.1)).mono (by grind)⟩
def CFv (z : F × F) : Prop := Fv z.1 ∧ Fv z.2
noncomputable def cxv (z : F × F) : Rat × Rat := (vl z.1, vl z.2)
theorem ab_div {a : Int} {d e : Nat} (hd : 0 < d) {c : Rat} (h : a.natAbs ≤ e) (hc : (e : Rat) ≤ c * d) : Ab ((a : Rat) / (d : Rat)) c := by
  have hd' : (0 : Rat) < (d : Rat) := by exact_mod_cast hd
  have e1 : (a : Rat) / (d : Rat) * d = a := div_mul_pos hd'
  have l1 : (a : Rat) ≤ ((e : Int) : Rat) := by exact_mod_cast (show a ≤ (e : Int) by omega)
  have l2 : ((-(e : Int) : Int) : Rat) ≤ (a : Rat) := by exact_mod_cast (show -(e : Int) ≤ a by omega)
  have l3 : ((e : Int) : Rat) = (e : Rat) := rfl
  rw [Rat.intCast_neg] at l2
  rw [l3] at l1 l2
  generalize (a : Rat) / (d : Rat) = x at *
  constructor
  · exact Rat.le_of_mul_le_mul_right (c := (d : Rat)) (by rw [e1]; grind) hd'
  · exact Rat.le_of_mul_le_mul_right (c := (d : Rat)) (by rw [e1]; grind) hd'
structure Spc (xs : List (F × F)) (n : Nat) (P Q : Nat → Rat) (G : Rat) : Prop where
  len : xs.length = n
  pos : 0 < n
  le : n ≤ 9
  fv : ∀ k, k < n → CFv (xs.getD k (none, none)) ∧ Ab (vl (xs.getD k (none, none)).1) (P k) ∧ Ab (vl (xs.getD k (none, none)).2) (Q k) ∧ P k ≤ 10000 ∧ Q k ≤ 10000
  sum : ∀ k, k ≤ n → rs (fun j => P j + Q j) k ≤ G
  big : G ≤ 1000
theorem Spc.all {xs : List (F × F)} {n : Nat} {P Q : Nat → Rat} {G : Rat} (h : Spc xs n P Q G) : ∀ z ∈ xs, CFv z := fun z hz => by
  obtain ⟨i, hi, rfl⟩ := List.mem_iff_getElem.1 hz
  have := (h.fv i (by rw [← h.len]; exact hi)).1
  rwa [show xs.getD i (none, none) = xs[i] from by simp [List.getD, hi]] at this
theorem one_f32 : Fv (some 1065353216) ∧ vl (some 1065353216) = 1 := by
  have d : Dy .f32 0 1 (some 1065353216) := ⟨1065353216, rfl, by decide, by decide, by decide, by decide +kernel⟩
  have := d.fv
  exact ⟨this.1, by rw [this.2]; simp; grind⟩
theorem getD_mapR {α : Type} (f : Nat → α) {n j : Nat} (hj : j < n) {d : α} : ((List.range n).map f).getD j d = f j := by simp [List.getD, hj]
theorem abTri {a b c e f : Rat} (h : Ab (a - b) e) (g : Ab (b - c) f) : Ab (a - c) (e + f) := ⟨by have := h.1; have := g.1; grind, by have := h.2; have := g.2; grind⟩
structure Rng (R : List (F × F)) (n : Nat) (r : Nat → Int) : Prop where
  len : R.length = n
  d : ∀ k, k < n → Dy .f32 4 (r k) (R.getD k (none, none)).1 ∧ (R.getD k (none, none)).2 = some 0
  b0 : r 0 = 96
  b : ∀ k, 0 < k → k < n → (r k).natAbs ≤ 4
structure Vct (V : List (F × F)) (n : Nat) (a b : Nat → Int) : Prop where
  len : V.length = n
  d : ∀ k, k < n → Dy .f32 2 (a k) (V.getD k (none, none)).1 ∧ Dy .f32 2 (b k) (V.getD k (none, none)).2
  b : ∀ k, k < n → (a k).natAbs ≤ 8 ∧ (b k).natAbs ≤ 8
theorem Rng.le {R : List (F × F)} {n : Nat} {r : Nat → Int} (h : Rng R n r) {k : Nat} (hk : k < n) : (r k).natAbs ≤ 96 := by
  by_cases h0 : k = 0
  · subst h0; rw [h.b0]; decide
  · have := h.b k (by omega) hk; omega
theorem zero_fv2 : vl (some 0) = 0 := fv_zero.2
theorem rs_const (c : Rat) : ∀ n : Nat, rs (fun _ => c) n = (n : Rat) * c
  | 0 => by simp [rs]
  | n + 1 => by unfold rs; rw [rs_const c n]; push_cast; grind
theorem Rng.v {R : List (F × F)} {n : Nat} {r : Nat → Int} (h : Rng R n r) {k : Nat} (hk : k < n) : CFv (R.getD k (none, none)) ∧ Ab (vl (R.getD k (none, none)).1) (if k = 0 then 6 else 1 / 4) ∧ vl (R.getD k (none, none)).2 = 0 := by
  obtain ⟨d1, d2⟩ := h.d k hk
  obtain ⟨f, v⟩ := d1.fv
  have e4 : (2 : Rat) ^ 4 = ((16 : Nat) : Rat) := by decide +kernel
  refine ⟨⟨f, by rw [d2]; exact fv_zero.1⟩, ?_, by rw [d2]; exact zero_fv2⟩
  rw [v, e4]
  by_cases h0 : k = 0
  · subst h0; rw [if_pos rfl]
    exact ab_div (e := 96) (by decide) (by rw [h.b0]; decide) (by decide +kernel)
  · rw [if_neg h0]
    exact ab_div (e := 4) (by decide) (h.b k (by omega) hk) (by decide +kernel)
theorem Vct.v {V : List (F × F)} {n : Nat} {a b : Nat → Int} (h : Vct V n a b) {k : Nat} (hk : k < n) : CFv (V.getD k (none, none)) ∧ cxB (cxv (V.getD k (none, none))) 2 := by
  obtain ⟨d1, d2⟩ := h.d k hk
  obtain ⟨b1, b2⟩ := h.b k hk
  obtain ⟨f1, v1⟩ := d1.fv
  obtain ⟨f2, v2⟩ := d2.fv
  have e4 : (2 : Rat) ^ 2 = ((4 : Nat) : Rat) := by decide +kernel
  refine ⟨⟨f1, f2⟩, ?_, ?_⟩
  · show Ab (vl _) 2
    rw [v1, e4]; exact ab_div (e := 8) (by decide) b1 (by decide +kernel)
  · show Ab (vl _) 2
    rw [v2, e4]; exact ab_div (e := 8) (by decide) b2 (by decide +kernel)
structure SpD (k : Nat) (V R : List (F × F)) (N : List F) : Prop where
  lv : V.length = k
  lr : R.length = k
  ln : N.length = k
  v : ∀ i, i < k → ∃ a b : Int, Dy .f32 2 a (V.getD i (none, none)).1 ∧ Dy .f32 2 b (V.getD i (none, none)).2 ∧ a.natAbs ≤ 8 ∧ b.natAbs ≤ 8
  r : ∀ i, i < k → ∃ a : Int, Dy .f32 4 a (R.getD i (none, none)).1 ∧ (R.getD i (none, none)).2 = some 0 ∧ (i = 0 → a = 96) ∧ (0 < i → a.natAbs ≤ 4)
  n : ∀ i, i < k → N.getD i none = (R.getD i (none, none)).1
theorem getD_snocC {α : Type} {l : List α} {x d : α} {i k : Nat} (hl : l.length = k) (hi : i < k + 1) : (l ++ [x]).getD i d = if i = k then x else l.getD i d := by
  by_cases h : i = k
  · subst h; rw [if_pos rfl]; simp [List.getD, ← hl]
  · rw [if_neg h]; simp [List.getD, List.getElem?_append_left (show i < l.length by omega)]
theorem SpD.app {k : Nat} {V R : List (F × F)} {N : List F} (h : SpD k V R N) {x y z : F} {a b c : Int} (hx : Dy .f32 2 a x) (hy : Dy .f32 2 b y) (ha : a.natAbs ≤ 8) (hb : b.natAbs ≤ 8) (hz : Dy .f32 4 c z) (h0 : k = 0 → c = 96) (h1 : 0 < k → c.natAbs ≤ 4) :
    SpD (k + 1) (V ++ [(x, y)]) (R ++ [(z, some 0)]) (N ++ [z]) := by
  refine ⟨by simp [h.lv], by simp [h.lr], by simp [h.ln], fun i hi => ?_, fun i hi => ?_, fun i hi => ?_⟩
  · rw [getD_snocC h.lv hi]
    by_cases e : i = k
    · rw [if_pos e]; exact ⟨a, b, hx, hy, ha, hb⟩
    · rw [if_neg e]; exact h.v i (by omega)
  · rw [getD_snocC h.lr hi]
    by_cases e : i = k
    · rw [if_pos e]; subst e; exact ⟨c, hz, rfl, h0, h1⟩
    · rw [if_neg e]; exact h.r i (by omega)
  · rw [getD_snocC h.lr hi, getD_snocC h.ln hi]
    by_cases e : i = k
    · rw [if_pos e, if_pos e]
    · rw [if_neg e, if_neg e]; exact h.n i (by omega)
theorem isList12_fv {l : List F} (h0 : 0 < l.length) (h1 : l.length ≤ 12) (f : ∀ x ∈ l, Fv x) : i_isList l 12 = some true := by
  unfold i_isList i_length_float32
  rw [obind_eq, i_inRange_eq, decide_eq_true (by omega), decide_eq_true (by omega), Bool.and_self, obind_eq, bsel_true, i_areFinite_eq (fun x hx => (f x hx).fok) (by omega), List.all_eq_true.2 fun x hx => (f x hx).fin, obind_eq]
theorem mem_mapR {α : Type} {f : Nat → α} {n : Nat} {x : α} (h : x ∈ (List.range n).map f) : ∃ k, k < n ∧ x = f k := by
  obtain ⟨k, hk, rfl⟩ := List.mem_map.1 h
  exact ⟨k, List.mem_range.1 hk, rfl⟩
theorem rs_revn (f : Nat → Rat) : ∀ n : Nat, rs (fun j => f (n - 1 - j)) n = rs f n
  | 0 => rfl
  | n + 1 => by
    have e := rs_split (fun j => f (n + 1 - 1 - j)) 1 n
    rw [Nat.add_comm 1 n] at e
    rw [e]
    have e1 : rs (fun j => f (n + 1 - 1 - j)) 1 = f n := by
      show 0 + f (n + 1 - 1 - 0) = f n
      rw [show n + 1 - 1 - 0 = n from by omega]; grind
    rw [e1, rs_congr (g := fun j => f (n - 1 - j)) fun j hj => by show f (n + 1 - 1 - (1 + j)) = _; rw [show n + 1 - 1 - (1 + j) = n - 1 - j from by omega], rs_revn f n]
    show f n + rs f n = rs f n + f n
    grind
def dst (i j : Nat) : Nat := if j ≤ i then i - j else j - i
theorem dst_rev {k i j : Nat} (hi : i < k) (hj : j < k) : dst i (k - 1 - j) = dst (k - 1 - i) j := by
  unfold dst
  by_cases h : k - 1 - j ≤ i
  · rw [if_pos h]
    by_cases h2 : j ≤ k - 1 - i
    · rw [if_pos h2]; omega
    · rw [if_neg h2]; omega
  · rw [if_neg h, if_pos (by omega)]; omega
theorem dst_self (i : Nat) : dst i i = 0 := by unfold dst; rw [if_pos (Nat.le_refl _)]; omega
theorem dst_lt {i j n : Nat} (hi : i < n) (hj : j < n) : dst i j < n := by unfold dst; split <;> omega
theorem dst_ne {i j : Nat} (h : i ≠ j) : 0 < dst i j := by unfold dst; split <;> omega
theorem row_ab {t d : Nat → Rat} {i k : Nat} {e : Rat} (hi : i < k) (t0 : Ab (t 0) 8) (ht : ∀ j, 0 < j → j < k → Ab (t j) 1) (hd : ∀ j, j < k → Ab (d j) e) : Ab (rs (fun j => t (dst i j) * d j) k) (((k : Rat) + 7) * e) := by
  have e0 : 0 ≤ e := (hd i hi).nonneg
  have h : ∀ j, j < k → Ab (t (dst i j) * d j) (e + 7 * e * (if j = i then 1 else 0)) := by
    intro j hj
    by_cases hji : j = i
    · rw [if_pos hji, hji, dst_self]; exact (t0.mul (hd i hi)).mono (by grind)
    · rw [if_neg hji]
      exact ((ht _ (dst_ne fun h => hji h.symm) (dst_lt hi hj)).mul (hd j hj)).mono (by grind)
  refine (rs_abw h).mono ?_
  have e1 := rs_delta (fun _ => 7 * e) i k
  rw [if_pos hi] at e1
  rw [rs_add, rs_const, e1]; grind
theorem rs_lin (t a b d : Nat → Rat) (r : Rat) (n : Nat) : rs (fun j => t j * (a j - r * b j + d j)) n = rs (fun j => t j * a j) n - r * rs (fun j => t j * b j) n + rs (fun j => t j * d j) n := by
  rw [rs_congr (g := fun j => (t j * a j - r * (t j * b j)) + t j * d j) fun j _ => by grind, rs_add, rs_sub, rs_mul]
theorem shift_row {t x a : Nat → Rat} {q : Rat} {i k : Nat} (x' : Nat → Rat) (hi : i < k) :
    rs (fun j => t (dst i j) * x' j) k + t (k - i) * q - (rs (fun j => t (dst i j) * x j) k) = rs (fun j => t (dst i j) * (x' j - (x j - q * a (k - 1 - j)))) k - q * (rs (fun j => t (dst (k - 1 - i) j) * a j) k - t (k - i)) := by
  have e1 := rs_lin (fun j => t (dst i j)) x (fun j => a (k - 1 - j)) (fun j => x' j - (x j - q * a (k - 1 - j))) q k
  rw [rs_congr (g := fun j => t (dst i j) * x' j) fun j _ => by grind] at e1
  have e2 : rs (fun j => t (dst i j) * a (k - 1 - j)) k = rs (fun j => t (dst (k - 1 - i) j) * a j) k := by
    rw [← rs_revn (fun j => t (dst i j) * a (k - 1 - j)) k]
    refine rs_congr fun j hj => ?_
    show t (dst i (k - 1 - j)) * a (k - 1 - (k - 1 - j)) = _
    rw [dst_rev hi hj, show k - 1 - (k - 1 - j) = j from by omega]
  rw [e2] at e1
  rw [e1]; grind
theorem shift_last {t x a : Nat → Rat} {q : Rat} {k : Nat} (x' : Nat → Rat) :
    rs (fun j => t (k - j) * x' j) k = rs (fun j => x j * t (k - j)) k - q * rs (fun j => a j * t (j + 1)) k + rs (fun j => t (k - j) * (x' j - (x j - q * a (k - 1 - j)))) k := by
  have e1 := rs_lin (fun j => t (k - j)) x (fun j => a (k - 1 - j)) (fun j => x' j - (x j - q * a (k - 1 - j))) q k
  rw [rs_congr (g := fun j => t (k - j) * x' j) fun j _ => by grind] at e1
  have e2 : rs (fun j => t (k - j) * a (k - 1 - j)) k = rs (fun j => a j * t (j + 1)) k := by
    rw [← rs_revn (fun j => t (k - j) * a (k - 1 - j)) k]
    refine rs_congr fun j hj => ?_
    show t (k - (k - 1 - j)) * a (k - 1 - (k - 1 - j)) = _
    rw [show k - 1 - (k - 1 - j) = j from by omega, show k - (k - 1 - j) = j + 1 from by omega]; grind
  rw [e1, e2, rs_congr (f := fun j => t (k - j) * x j) (g := fun j => x j * t (k - j)) fun j _ => by grind]
theorem shift_e {t a : Nat → Rat} {r : Rat} {k : Nat} (a' : Nat → Rat) :
    rs (fun j => a' j * t (j + 1)) k = rs (fun j => a j * t (j + 1)) k - r * rs (fun j => a j * t (k - j)) k + rs (fun j => t (j + 1) * (a' j - (a j - r * a (k - 1 - j)))) k := by
  have e1 := rs_lin (fun j => t (j + 1)) a (fun j => a (k - 1 - j)) (fun j => a' j - (a j - r * a (k - 1 - j))) r k
  rw [rs_congr (g := fun j => a' j * t (j + 1)) fun j _ => by grind] at e1
  have e2 : rs (fun j => t (j + 1) * a (k - 1 - j)) k = rs (fun j => a j * t (k - j)) k := by
    rw [← rs_revn (fun j => t (j + 1) * a (k - 1 - j)) k]
    refine rs_congr fun j hj => ?_
    show t (k - 1 - j + 1) * a (k - 1 - (k - 1 - j)) = _
    rw [show k - 1 - (k - 1 - j) = j from by omega, show k - 1 - j + 1 = k - j from by omega]; grind
  rw [e1, e2, rs_congr (f := fun j => t (j + 1) * a j) (g := fun j => a j * t (j + 1)) fun j _ => by grind]
theorem cap {z : Rat} {x : F} {r0 : Nat} {v s : Rat} (h : Rv .f32 z x) (hv : ((rval FloatKind.f32.format r0 : Nat) : Rat) = v * 2 ^ 149) (hs : ((rval FloatKind.f32.format (r0 + 1) : Nat) : Rat) = (v + s) * 2 ^ 149) (hz : z < v + s) (v0 : 0 ≤ v) : z ≤ v := by
  obtain ⟨n, ⟨b, _, _, _, _, hb⟩, e⟩ := h
  have e : (n : Rat) = z * 2 ^ 149 := e
  have hb : fval .f32 b = n * ((2 ^ (149 - 149) : Nat) : Int) := hb
  have hn : fval .f32 b = n := by rw [hb]; simp
  have hp := p2 149
  by_cases h0 : z ≤ v
  · exact h0
  · exfalso
    have h1 : v < z := Rat.not_le.1 h0
    have h2 := Rat.mul_lt_mul_of_pos_right h1 hp
    have h3 := Rat.mul_lt_mul_of_pos_right hz hp
    rw [← hv, ← e] at h2
    rw [← hs, ← e] at h3
    have h2 : ((rval FloatKind.f32.format r0 : Nat) : Int) < n := by exact_mod_cast h2
    have h3 : n < ((rval FloatKind.f32.format (r0 + 1) : Nat) : Int) := by exact_mod_cast h3
    rw [← hn] at h2 h3
    unfold fval sval at h2 h3
    split at h2
    · omega
    · rename_i hneg
      rw [if_neg hneg] at h3
      have h2 : rval FloatKind.f32.format r0 < rval FloatKind.f32.format (wrung FloatKind.f32.format b) := by omega
      have h3 : rval FloatKind.f32.format (wrung FloatKind.f32.format b) < rval FloatKind.f32.format (r0 + 1) := by omega
      rcases Nat.lt_or_ge r0 (wrung FloatKind.f32.format b) with h | h
      · have := rval_le FloatKind.f32.format (show r0 + 1 ≤ wrung FloatKind.f32.format b from h); omega
      · have := rval_le FloatKind.f32.format h; omega
theorem cap8 {z : Rat} {x : F} (h : Rv .f32 z x) (hz : z < 8 + 1 / 1048576) : z ≤ 8 :=
  cap (r0 := 1090519040) (v := 8) (s := 1 / 1048576) h (by decide +kernel) (by decide +kernel) hz (by decide)
theorem cap1 {z : Rat} {x : F} (h : Rv .f32 z x) (hz : z < 1 + 1 / 8388608) : z ≤ 1 :=
  cap (r0 := 1065353216) (v := 1) (s := 1 / 8388608) h (by decide +kernel) (by decide +kernel) hz (by decide)
theorem setLoop {ρ : Type} {step : List F × Int → Option (LR (List F × Int) (List F) ρ)} {g : Nat → F → F} {n : Nat} {L : List F} (hl : L.length = n) (hs : ∀ (j : Nat) (M : List F), j < n → M.length = n → step (M, (j : Int)) = some (.next (M.set j (g j (M.getD j none)), ((j + 1 : Nat) : Int))))
    (he : ∀ M : List F, M.length = n → step (M, (n : Int)) = some (.out M)) : loopM step (L, 0) = some (.inl ((List.range n).map fun i => g i (L.getD i none))) := by
  have e := (loop_run (step := step) (fun (i : Nat) (M : List F) => (M, (i : Int))) (fun i M => M.set i (g i (M.getD i none))) (fun M => M) (fun _ M => M.length = n) (lo := 0) (n := n) (Nat.zero_le _) (s0 := L) hl
    (fun i M _ hi hM => ⟨hs i M hi hM, by simp [hM]⟩) (fun M hM => he M hM)).1
  rw [Nat.sub_zero, run_set g hl] at e
  exact e
theorem div_ab {n d N c lo : Rat} (hn : Ab n N) (h0 : 0 < lo) (hd : lo ≤ d) (hc : N ≤ c * lo) (c0 : 0 ≤ c) : Ab (n / d) c := by
  have hd0 : 0 < d := by grind
  have e := div_mul_pos (a := n) hd0
  have l := Rat.mul_le_mul_of_nonneg_left hd c0
  generalize n / d = x at *
  exact ⟨Rat.le_of_mul_le_mul_right (c := d) (by rw [e]; have := hn.1; grind) hd0, Rat.le_of_mul_le_mul_right (c := d) (by rw [e]; have := hn.2; grind) hd0⟩
noncomputable def tv (l : List F) (k : Nat) : Rat := vl (l.getD k none)
def aT (k : Nat) : Rat := [0, 12502 / 100000, 14289 / 100000, 16671 / 100000, 20006 / 100000, 25009 / 100000, 33348 / 100000, 5003 / 10000].getD k 0
def rT (k : Nat) : Rat := [12501 / 100000, 14287 / 100000, 16669 / 100000, 20003 / 100000, 25005 / 100000, 33343 / 100000, 50023 / 100000].getD k 0
def rhoT (k : Nat) : Rat := [0, 51 / 10000000, 68 / 10000000, 90 / 10000000, 120 / 10000000, 163 / 10000000, 231 / 10000000, 361 / 10000000].getD k 0
theorem lev_tab : ∀ k : Nat, k < 7 → (1 + (k : Rat) * aT k + 5 / 1000000 ≤ (rT k - 2 / 1000000) * (8 - (k : Rat) * aT k - 5 / 100000)) ∧ (4 ≤ 8 - (k : Rat) * aT k - 5 / 100000) ∧ (aT k * (1 + rT k) + 3 / 10000000 ≤ aT (k + 1)) ∧ rT k ≤ aT (k + 1) ∧ rT k ≤ 51 / 100 ∧ aT k ≤ 51 / 100 ∧
    0 ≤ aT k ∧ 1 / 10 ≤ rT k ∧ rhoT k * (1 + rT k) + ((k : Rat) + 7) / 10000000 ≤ rhoT (k + 1) ∧ 5 / 1000000 + rT k * ((k : Rat) * 6 / 1000000) + (k : Rat) / 10000000 ≤ rhoT (k + 1) ∧ (k : Rat) * aT k ≤ 22 / 10 := by decide +kernel
structure Shf (l : List F) (n : Nat) : Prop where
  len : l.length = n
  n0 : 0 < n
  n8 : n ≤ 8
  fv : ∀ k, k < n → Fv (l.getD k none)
  h0 : l.getD 0 none = some 1090519040
  b : ∀ k, 0 < k → k < n → Ab (tv l k) 1
theorem eight_fv : Fv (some 1090519040) ∧ vl (some 1090519040) = 8 := by
  have d : Dy .f32 0 8 (some 1090519040) := ⟨1090519040, rfl, by decide, by decide, by decide, by decide +kernel⟩
  have := d.fv
  exact ⟨this.1, by rw [this.2]; decide +kernel⟩
theorem Shf.t0 {l : List F} {n : Nat} (h : Shf l n) : tv l 0 = 8 := by unfold tv; rw [h.h0]; exact eight_fv.2
structure Lev (l : List F) (k : Nat) (A : List F) (e : F) : Prop where
  len : A.length = k
  fv : ∀ i, i < k → Fv (A.getD i none) ∧ Ab (vl (A.getD i none)) (aT k)
  res : ∀ i, i < k → Ab (rs (fun j => tv l (dst i j) * vl (A.getD j none)) k - tv l (i + 1)) (rhoT k)
  fe : Fv e
  ed : Ab (vl e - (8 - rs (fun j => vl (A.getD j none) * tv l (j + 1)) k)) ((k : Rat) * 6 / 1000000)
  e8 : vl e ≤ 8
theorem Lev.lo {l A : List F} {n k : Nat} {e : F} (hs : Shf l n) (h : Lev l k A e) (hk : k < n) : 8 - (k : Rat) * aT k - 5 / 100000 ≤ vl e := by
  have hb : Ab (rs (fun j => vl (A.getD j none) * tv l (j + 1)) k) ((k : Rat) * aT k) := rs_ab fun j hj => ((h.fv j hj).2.mul (hs.b (j + 1) (by omega) (by omega))).mono (by grind)
  have kr : (k : Rat) ≤ 7 := by exact_mod_cast (show k ≤ 7 by have := hs.n8; omega)
  have := h.ed.1
  have := hb.2
  grind
theorem lev_zero {l : List F} {n : Nat} (h : Shf l n) : Lev l 0 [] (some 1090519040) :=
  ⟨rfl, fun i hi => by omega, fun i hi => by omega, eight_fv.1, by rw [eight_fv.2]; simp only [rs]; exact ⟨by simp; grind, by simp; grind⟩, by rw [eight_fv.2]; exact Rat.le_refl⟩
theorem lev_sum {l A : List F} {n k : Nat} {e : F} {P : Rat} (hs : Shf l n) (hl : A.length = k) (hk : k < n) (hP : 0 ≤ P) (hP5 : P ≤ 5) (hA : ∀ i, i < k → Fv (A.getD i none) ∧ Ab (vl (A.getD i none)) P) :
    Fv (dotN (fun j => A.getD j none) (fun j => l.getD (k - j) none) k) ∧ Ab (rs (fun j => vl (A.getD j none) * tv l (k - j)) k) ((k : Rat) * P) ∧
    ∀ c : Rat, e32 P + e32 ((k : Rat) * P + 16 * c + e32 P) ≤ c → 0 ≤ c → c ≤ 1 → Ab (vl (dotN (fun j => A.getD j none) (fun j => l.getD (k - j) none) k) - rs (fun j => vl (A.getD j none) * tv l (k - j)) k) ((k : Rat) * c) := by
  have n8 := hs.n8
  have pr : ∀ j, j < k → Fv (A.getD j none) ∧ Fv (l.getD (k - j) none) ∧ Ab (vl (A.getD j none) * vl (l.getD (k - j) none)) P := fun j hj =>
    ⟨(hA j hj).1, hs.fv _ (by omega), ((hA j hj).2.mul (hs.b (k - j) (by omega) (by omega))).mono (by grind)⟩
  have kr : (k : Rat) ≤ 7 := by exact_mod_cast (show k ≤ 7 by omega)
  have k0 : (0 : Rat) ≤ (k : Rat) := by exact_mod_cast Nat.zero_le k
  have kP := Rat.mul_le_mul_of_nonneg_right kr hP
  have hS : ∀ j, j ≤ k → Ab (rs (fun t => vl (A.getD t none) * vl (l.getD (k - t) none)) j) ((k : Rat) * P) := fun j hj => (rs_ab fun t ht => (pr t (by omega)).2.2).mono (by
    have hj' : (j : Rat) ≤ (k : Rat) := by exact_mod_cast hj
    exact Rat.mul_le_mul_of_nonneg_right hj' hP)
  refine ⟨?_, hS k (Nat.le_refl _), fun c h1 h2 h3 => (dotN_near (by omega) pr hS (by grind) (by grind) h1 h2 h3).2⟩
  refine (dotN_near (P := P) (S := (k : Rat) * P) (e := 1 / 100) (by omega) pr hS (by grind) (by grind) ?_ (by decide +kernel) (by decide +kernel)).1
  unfold e32
  grind
theorem lev_prods {l A : List F} {n k : Nat} (hs : Shf l n) (hl : A.length = k) (hk : k + 1 < n) : loopM (i_reflections_next_0p0_C00o1_1o2_s1 l ((k + 1 : Nat) : Int) A) (some 0, 0) = some (.inl (dotN (fun j => A.getD j none) (fun j => l.getD (k - j) none) k)) := by
  have n8 := hs.n8
  refine loop_go (step := i_reflections_next_0p0_C00o1_1o2_s1 l ((k + 1 : Nat) : Int) A) (fun j : Nat => (dotN (fun j => A.getD j none) (fun j => l.getD (k - j) none) j, (j : Int))) k 0 (fun j _ hj => ?_) ?_
  · have hj : j < k := by omega
    show i_reflections_next_0p0_C00o1_1o2_b1 l _ A _ (j : Int) = _
    unfold i_reflections_next_0p0_C00o1_1o2_b1 i_mul
    have w1 : IntKind.i64.wrap (((k + 1 : Nat) : Int) - 1) = (k : Int) := by rw [wi64 (by omega) (by omega)]; omega
    have w2 : IntKind.i64.wrap ((k : Int) - (j : Int)) = ((k - j : Nat) : Int) := by rw [wi64 (by omega) (by omega)]; omega
    have e2 : dotN (fun j => A.getD j none) (fun j => l.getD (k - j) none) (j + 1) = fop .add .f32 (dotN (fun j => A.getD j none) (fun j => l.getD (k - j) none) j) (fop .mul .f32 (A.getD j none) (l.getD (k - j) none)) := by
      unfold dotN; rw [run_last, Nat.zero_add]; rfl
    rw [hl, dlt hj, bsel_true, at?_n none (by omega), obind_eq, w1, olet_eq, w2, olet_eq, at?_n none (by rw [hs.len]; omega), obind_eq, olet_eq, obind_eq, olet_eq, wsucc (by omega), olet_eq, e2]
  · show i_reflections_next_0p0_C00o1_1o2_b1 l _ A _ ((0 + k : Nat) : Int) = _
    unfold i_reflections_next_0p0_C00o1_1o2_b1
    rw [hl, Nat.zero_add, dnlt, bsel_false]
theorem lev_back {A : List F} {k : Nat} {r : F} (hl : A.length = k) (hk : k ≤ 8) : loopM (i_reflections_next_0p0_C00o1_1o2_s2 ((k + 1 : Nat) : Int) A r A) (A, 0) = some (.inl ((List.range k).map fun i => fop .sub .f32 (A.getD i none) (fop .mul .f32 r (A.getD (k - 1 - i) none)))) := by
  refine setLoop (g := fun i x => fop .sub .f32 x (fop .mul .f32 r (A.getD (k - 1 - i) none))) hl (fun j M hj hM => ?_) fun M hM => ?_
  · show i_reflections_next_0p0_C00o1_1o2_b2 _ A r A M (j : Int) = _
    unfold i_reflections_next_0p0_C00o1_1o2_b2 i_mul
    have w1 : IntKind.i64.wrap (((k + 1 : Nat) : Int) - 2) = (k : Int) - 1 := by rw [wi64 (by omega) (by omega)]; omega
    have w2 : IntKind.i64.wrap ((k : Int) - 1 - (j : Int)) = ((k - 1 - j : Nat) : Int) := by rw [wi64 (by omega) (by omega)]; omega
    rw [hl, dlt hj, bsel_true, at?_n none (by omega), obind_eq, w1, olet_eq, w2, olet_eq, at?_n none (by omega), obind_eq, olet_eq, obind_eq, olet_eq, setAt?_n _ (by omega), obind_eq, wsucc (by omega), olet_eq]
  · show i_reflections_next_0p0_C00o1_1o2_b2 _ A r A M (k : Int) = _
    unfold i_reflections_next_0p0_C00o1_1o2_b2
    rw [hl, dnlt, bsel_false]
theorem lev_next {l A R : List F} {n k : Nat} {e : F} (hs : Shf l n) (hk : k + 1 < n) (h : Lev l k A e) (hR : R.length ≤ 100) :
    ∃ A' e' r, i_reflections_next_0p0_C00o1_1o2 l ((k + 1 : Nat) : Int) e A R = some (true, e', A', R ++ [r]) ∧ Lev l (k + 1) A' e' ∧ Fv r ∧ Ab (vl r) (51 / 100) := by
  have n8 := hs.n8
  obtain ⟨T1, T2, T3, T4, T5, T6, T7, T8, T9, T10, T11⟩ := lev_tab k (by omega)
  have k0 : (0 : Rat) ≤ (k : Rat) := by exact_mod_cast Nat.zero_le k
  have k6 : (k : Rat) ≤ 6 := by exact_mod_cast (show k ≤ 6 by omega)
  have lo := h.lo hs (by omega)
  have e8 := h.e8
  obtain ⟨f1, f2, f3⟩ := lev_sum (e := e) hs h.len (by omega) T7 (by grind) h.fv
  have f3 := f3 (4 / 10000000) (by unfold e32; grind) (by decide +kernel) (by decide +kernel)
  generalize hy : dotN (fun j => A.getD j none) (fun j => l.getD (k - j) none) k = y at *
  have ft := hs.fv (k + 1) hk
  have bt : Ab (vl (l.getD (k + 1) none)) 1 := hs.b (k + 1) (by omega) hk
  -- the numerator
  have m1 : Ab (vl (l.getD (k + 1) none) - vl y) 4 := ⟨by have := bt.1; have := f2.2; have := f3.2; grind, by have := bt.2; have := f2.1; have := f3.1; grind⟩
  obtain ⟨g1, g2⟩ := fv_sub ft f1 m1 (by decide +kernel)
  have g2 := g2.mono (show e32 4 ≤ 5 / 10000000 by decide +kernel)
  generalize hx : fop .sub .f32 (l.getD (k + 1) none) y = x at *
  have g3 : Ab (vl x - (vl (l.getD (k + 1) none) - rs (fun j => vl (A.getD j none) * tv l (k - j)) k)) (3 / 1000000) := ⟨by have := g2.1; have := f3.2; grind, by have := g2.2; have := f3.1; grind⟩
  have g4 : Ab (vl x) (1 + (k : Rat) * aT k + 5 / 1000000) := ⟨by have := g3.1; have := bt.1; have := f2.2; grind, by have := g3.2; have := bt.2; have := f2.1; grind⟩
  -- the quotient
  have q0 : Ab (vl x / vl e) (rT k - 2 / 1000000) := div_ab g4 (by grind) lo T1 (by grind)
  obtain ⟨r1, r2⟩ := fv_quo g1 h.fe (by grind) q0 (by grind)
  have r2 := r2.mono (show e32 (rT k - 2 / 1000000) ≤ 7 / 100000000 by unfold e32; grind)
  generalize hr : fop .quo .f32 x e = r at *
  have rb : Ab (vl r) (rT k) := ⟨by have := q0.1; have := r2.1; grind, by have := q0.2; have := r2.2; grind⟩
  have rb5 : Ab (vl r) (51 / 100) := rb.mono T5
  have hG : Ab (vl r * vl e - (vl (l.getD (k + 1) none) - rs (fun j => vl (A.getD j none) * tv l (k - j)) k)) (5 / 1000000) := by
    have e1 : vl x / vl e * vl e = vl x := div_mul_pos (by grind)
    have e2 := r2.mul (show Ab (vl e) 8 from ⟨by grind, e8⟩)
    rw [show (vl r - vl x / vl e) * vl e = vl r * vl e - vl x / vl e * vl e from by grind, e1] at e2
    exact (abTri e2 g3).mono (by grind)
  -- the new numbers
  have nw : ∀ i, i < k → Fv (fop .sub .f32 (A.getD i none) (fop .mul .f32 r (A.getD (k - 1 - i) none))) ∧ Ab (vl (fop .sub .f32 (A.getD i none) (fop .mul .f32 r (A.getD (k - 1 - i) none))) - (vl (A.getD i none) - vl r * vl (A.getD (k - 1 - i) none))) (1 / 10000000) := by
    intro i hi
    obtain ⟨a1, a2⟩ := h.fv i hi
    obtain ⟨b1, b2⟩ := h.fv (k - 1 - i) (by omega)
    have p := rb5.mul (b2.mono T6)
    refine fv_submul (P := 51 / 100 * (51 / 100)) (M := 52 / 100) a1 r1 b1 p ?_ (by decide +kernel) (by decide +kernel) (by decide +kernel)
    have p2 := rb.mul b2
    have c : aT k + rT k * aT k ≤ 52 / 100 := by
      have : aT (k + 1) ≤ 51 / 100 := by
        have := (show ∀ k : Nat, k < 8 → aT k ≤ 51 / 100 by decide +kernel) (k + 1) (by omega)
        exact this
      grind
    exact (a2.sub p2).mono c
  have lA' : (((List.range k).map fun i => fop .sub .f32 (A.getD i none) (fop .mul .f32 r (A.getD (k - 1 - i) none))) ++ [r]).length = k + 1 := by simp
  have gA : ∀ i, i < k → (((List.range k).map fun i => fop .sub .f32 (A.getD i none) (fop .mul .f32 r (A.getD (k - 1 - i) none))) ++ [r]).getD i none = fop .sub .f32 (A.getD i none) (fop .mul .f32 r (A.getD (k - 1 - i) none)) := fun i hi => by
    rw [getD_snocC (k := k) (by simp) (by omega), if_neg (by omega), getD_mapR _ hi]
  have gk : (((List.range k).map fun i => fop .sub .f32 (A.getD i none) (fop .mul .f32 r (A.getD (k - 1 - i) none))) ++ [r]).getD k none = r := by
    rw [getD_snocC (k := k) (by simp) (by omega), if_pos rfl]
  generalize hA' : ((List.range k).map fun i => fop .sub .f32 (A.getD i none) (fop .mul .f32 r (A.getD (k - 1 - i) none))) ++ [r] = A' at *
  have hd : ∀ j, j < k → Ab (vl (A'.getD j none) - (vl (A.getD j none) - vl r * vl (A.getD (k - 1 - j) none))) (1 / 10000000) := fun j hj => by rw [gA j hj]; exact (nw j hj).2
  have one := one_f32
  -- what is left over
  obtain ⟨s1, s2⟩ := fv_mulh r1 r1 (rb5.mul rb5) (by decide +kernel)
  have s2 := s2.mono (show h32 (51 / 100 * (51 / 100)) ≤ 16 / 1000000000 by decide +kernel)
  have rr := (rb5.mul rb5).2
  have rr0 : 0 ≤ vl r * vl r := by
    by_cases h : 0 ≤ vl r
    · exact Rat.mul_nonneg h h
    · have := Rat.mul_nonneg (a := -vl r) (b := -vl r) (by grind) (by grind); grind
  generalize hrr : fop .mul .f32 r r = rr' at *
  obtain ⟨c1, c2⟩ := fv_subh one.1 s1 (M := 1 + 2 / 100000000) (by rw [one.2]; exact ⟨by have := s2.2; grind, by have := s2.1; grind⟩) (by decide +kernel)
  rw [one.2] at c2
  have c2 := c2.mono (show h32 (1 + 2 / 100000000) ≤ 6 / 100000000 by decide +kernel)
  generalize hc : fop .sub .f32 (some 1065353216) rr' = c at *
  have cle : vl c ≤ 1 := cap1 c1.rv (by have := c2.2; have := s2.1; grind)
  have cge : 7 / 10 ≤ vl c := by have := c2.1; have := s2.2; grind
  have ce0 := Rat.mul_le_mul_of_nonneg_left cle (show 0 ≤ vl e by grind)
  have ce1 := Rat.mul_le_mul_of_nonneg_left cge (show 0 ≤ vl e by grind)
  obtain ⟨d1, d2⟩ := fv_mulh h.fe c1 (M := 8) ⟨by grind, by grind⟩ (by decide +kernel)
  have d2 := d2.mono (show h32 8 ≤ 48 / 100000000 by decide +kernel)
  generalize he' : fop .mul .f32 e c = e' at *
  have e8' : vl e' ≤ 8 := cap8 d1.rv (by have := d2.2; grind)
  have epos : 0 < vl e' := by have := d2.1; grind
  have hη : Ab (vl e' - (vl e - vl r * (vl r * vl e))) (13 / 10000000) := by
    have x1 : Ab (vl c - (1 - vl r * vl r)) (76 / 1000000000) := ⟨by have := c2.1; have := s2.2; grind, by have := c2.2; have := s2.1; grind⟩
    have x2 := (show Ab (vl e) 8 from ⟨by grind, e8⟩).mul x1
    have x3 : vl e' - (vl e - vl r * (vl r * vl e)) = (vl e' - vl e * vl c) + vl e * (vl c - (1 - vl r * vl r)) := by grind
    rw [x3]; exact (d2.add x2).mono (by grind)
  have t0 := hs.t0
  have tb : ∀ j, 0 < j → j < k + 1 → Ab (tv l j) 1 := fun j h1 h2 => hs.b j h1 (by omega)
  refine ⟨A', e', r, ?_, ⟨lA', ?_, ?_, d1, ?_, e8'⟩, r1, rb5⟩
  · unfold i_reflections_next_0p0_C00o1_1o2
    rw [lev_prods hs h.len hk, obind_eq, osum_inl, hy]
    unfold i_reflections_next_0p0_C00o1_1o2_k1 x_slices_Clone_float32_float32
    rw [at?_n none (by rw [hs.len]; exact hk), obind_eq, hx, olet_eq, hr, olet_eq, show apok 4 0 A.length = true from by simp [apok, h.len]; omega, need_true, obind_eq, List.nil_append, lev_back h.len (by omega), obind_eq, osum_inl]
    unfold i_reflections_next_0p0_C00o1_1o2_k2 i_mul
    rw [show apok 4 A.length 1 = true from by simp [apok, h.len]; omega, need_true, show apok 4 R.length 1 = true from by simp [apok]; omega, need_true, olet_eq, obind_eq, hrr, hc, olet_eq, olet_eq, obind_eq, he', hA', fv_lt fv_zero.1 d1, fv_zero.2, decide_eq_true epos]
  · intro i hi
    by_cases hik : i = k
    · rw [hik, gk]; exact ⟨r1, rb.mono T4⟩
    · rw [gA i (by omega)]
      obtain ⟨n1, n2⟩ := nw i (by omega)
      refine ⟨n1, ?_⟩
      have p2 := (h.fv i (by omega)).2.sub (rb.mul (h.fv (k - 1 - i) (by omega)).2)
      exact ⟨by have := n2.1; have := p2.1; grind, by have := n2.2; have := p2.2; grind⟩
  · intro i hi
    by_cases hik : i = k
    · rw [hik]
      show Ab (rs (fun j => tv l (dst k j) * vl (A'.getD j none)) k + tv l (dst k k) * vl (A'.getD k none) - tv l (k + 1)) _
      rw [gk, dst_self, t0, rs_congr (g := fun j => tv l (k - j) * vl (A'.getD j none)) fun j hj => by unfold dst; rw [if_pos (by omega)]]
      have sl := shift_last (t := tv l) (x := fun j => vl (A.getD j none)) (a := fun j => vl (A.getD j none)) (q := vl r) (k := k) (fun j => vl (A'.getD j none))
      have sl : rs (fun j => tv l (k - j) * vl (A'.getD j none)) k = _ := sl
      rw [sl]
      have D := rs_ab (f := fun j => tv l (k - j) * (vl (A'.getD j none) - (vl (A.getD j none) - vl r * vl (A.getD (k - 1 - j) none)))) (e := 1 / 10000000) (n := k) (fun j hj => ((tb (k - j) (by omega) (by omega)).mul (hd j hj)).mono (by grind))
      have ed := rb.mul h.ed
      have hG' : Ab (vl r * vl e - (tv l (k + 1) - rs (fun j => vl (A.getD j none) * tv l (k - j)) k)) (5 / 1000000) := hG
      generalize rs (fun j => tv l (k - j) * (vl (A'.getD j none) - (vl (A.getD j none) - vl r * vl (A.getD (k - 1 - j) none)))) k = D0 at *
      generalize rs (fun j => vl (A.getD j none) * tv l (k - j)) k = S2 at *
      generalize rs (fun j => vl (A.getD j none) * tv l (j + 1)) k = S1 at *
      rw [show S2 - vl r * S1 + D0 + 8 * vl r - tv l (k + 1) = (vl r * vl e - (tv l (k + 1) - S2)) - vl r * (vl e - (8 - S1)) + D0 from by grind]
      exact ((hG'.sub ed).add D).mono (by grind)
    · have hi' : i < k := by omega
      show Ab (rs (fun j => tv l (dst i j) * vl (A'.getD j none)) k + tv l (dst i k) * vl (A'.getD k none) - tv l (i + 1)) _
      rw [gk, show dst i k = k - i from by unfold dst; rw [if_neg (by omega)]]
      have sl := shift_row (t := tv l) (x := fun j => vl (A.getD j none)) (a := fun j => vl (A.getD j none)) (q := vl r) (k := k) (fun j => vl (A'.getD j none)) hi'
      have sl : rs (fun j => tv l (dst i j) * vl (A'.getD j none)) k + tv l (k - i) * vl r - rs (fun j => tv l (dst i j) * vl (A.getD j none)) k = rs (fun j => tv l (dst i j) * (vl (A'.getD j none) - (vl (A.getD j none) - vl r * vl (A.getD (k - 1 - j) none)))) k - vl r * (rs (fun j => tv l (dst (k - 1 - i) j) * vl (A.getD j none)) k - tv l (k - i)) := sl
      have D := row_ab (t := tv l) (d := fun j => vl (A'.getD j none) - (vl (A.getD j none) - vl r * vl (A.getD (k - 1 - j) none))) (e := 1 / 10000000) hi' (by rw [t0]; exact ⟨by decide, by decide⟩) (fun j h1 h2 => tb j h1 (by omega)) hd
      have D : Ab (rs (fun j => tv l (dst i j) * (vl (A'.getD j none) - (vl (A.getD j none) - vl r * vl (A.getD (k - 1 - j) none)))) k) (((k : Rat) + 7) * (1 / 10000000)) := D
      have R1 := h.res i hi'
      have R2 := h.res (k - 1 - i) (by omega)
      rw [show k - 1 - i + 1 = k - i from by omega] at R2
      have R3 := rb.mul R2
      generalize rs (fun j => tv l (dst i j) * (vl (A'.getD j none) - (vl (A.getD j none) - vl r * vl (A.getD (k - 1 - j) none)))) k = D0 at *
      generalize rs (fun j => tv l (dst (k - 1 - i) j) * vl (A.getD j none)) k - tv l (k - i) = E2 at *
      generalize rs (fun j => tv l (dst i j) * vl (A.getD j none)) k = S1 at *
      generalize rs (fun j => tv l (dst i j) * vl (A'.getD j none)) k = S2 at *
      rw [show S2 + tv l (k - i) * vl r - tv l (i + 1) = (S1 - tv l (i + 1)) + (D0 - vl r * E2) from by grind]
      exact (R1.add (D.sub R3)).mono (by grind)
  · show Ab (vl e' - (8 - (rs (fun j => vl (A'.getD j none) * tv l (j + 1)) k + vl (A'.getD k none) * tv l (k + 1)))) _
    rw [gk]
    have sl := shift_e (t := tv l) (a := fun j => vl (A.getD j none)) (r := vl r) (k := k) (fun j => vl (A'.getD j none))
    have sl : rs (fun j => vl (A'.getD j none) * tv l (j + 1)) k = rs (fun j => vl (A.getD j none) * tv l (j + 1)) k - vl r * rs (fun j => vl (A.getD j none) * tv l (k - j)) k + rs (fun j => tv l (j + 1) * (vl (A'.getD j none) - (vl (A.getD j none) - vl r * vl (A.getD (k - 1 - j) none)))) k := sl
    rw [sl]
    have D := rs_ab (f := fun j => tv l (j + 1) * (vl (A'.getD j none) - (vl (A.getD j none) - vl r * vl (A.getD (k - 1 - j) none)))) (e := 1 / 10000000) (n := k) (fun j hj => ((tb (j + 1) (by omega) (by omega)).mul (hd j hj)).mono (by grind))
    have hG' : Ab (vl r * vl e - (tv l (k + 1) - rs (fun j => vl (A.getD j none) * tv l (k - j)) k)) (5 / 1000000) := hG
    have G2 := rb5.mul hG'
    have ed := h.ed
    have ek : ((k + 1 : Nat) : Rat) = (k : Rat) + 1 := by push_cast; rfl
    rw [ek]
    generalize rs (fun j => tv l (j + 1) * (vl (A'.getD j none) - (vl (A.getD j none) - vl r * vl (A.getD (k - 1 - j) none)))) k = D0 at *
    generalize rs (fun j => vl (A.getD j none) * tv l (k - j)) k = S2 at *
    generalize rs (fun j => vl (A.getD j none) * tv l (j + 1)) k = S1 at *
    rw [show vl e' - (8 - (S1 - vl r * S2 + D0 + vl r * tv l (k + 1))) = (vl e' - (vl e - vl r * (vl r * vl e))) + (vl e - (8 - S1)) - vl r * (vl r * vl e - (tv l (k + 1) - S2)) + D0 from by grind]
    exact (((hη.add ed).sub G2).add D).mono (by grind)
def xT (k : Nat) : Rat := [0, 50001 / 100000, 57146 / 100000, 66673 / 100000, 80012 / 100000, 100021 / 100000, 133374 / 100000, 200095 / 100000, 400386 / 100000].getD k 0
def qT (k : Nat) : Rat := [0, 57145 / 100000, 66670 / 100000, 80006 / 100000, 100012 / 100000, 133361 / 100000, 200074 / 100000, 400341 / 100000].getD k 0
def tauT (k : Nat) : Rat := [0, 51 / 10000000, 36 / 1000000, 51 / 1000000, 70 / 1000000, 95 / 1000000, 130 / 1000000, 191 / 1000000, 351 / 1000000].getD k 0
theorem x_tab : ∀ k : Nat, k < 8 → 0 < k → (4 + (k : Rat) * xT k + 5 / 100000 ≤ (qT k - 4 / 1000000) * (8 - (k : Rat) * aT k - 5 / 100000)) ∧ (4 ≤ 8 - (k : Rat) * aT k - 5 / 100000) ∧ (xT k + qT k * aT k + 1 / 1000000 ≤ xT (k + 1)) ∧ qT k ≤ xT (k + 1) ∧ qT k ≤ 401 / 100 ∧ xT k ≤ 201 / 100 ∧
    0 ≤ xT k ∧ 1 / 10 ≤ qT k ∧ tauT k + qT k * rhoT k + ((k : Rat) + 7) / 1000000 ≤ tauT (k + 1) ∧ 3 / 100000 + qT k * ((k : Rat) * 6 / 1000000) + (k : Rat) / 1000000 ≤ tauT (k + 1) ∧ (k : Rat) * xT k ≤ 141 / 10 ∧ aT k ≤ 51 / 100 ∧ qT k * aT k ≤ 201 / 100 ∧ xT k + qT k * aT k ≤ 401 / 100 ∧ 0 ≤ aT k := by decide +kernel
structure ShX (l b : List F) (k : Nat) (X : List F) : Prop where
  len : X.length = k
  fv : ∀ i, i < k → Fv (X.getD i none) ∧ Ab (vl (X.getD i none)) (xT k)
  res : ∀ i, i < k → Ab (rs (fun j => tv l (dst i j) * vl (X.getD j none)) k - tv b i) (tauT k)
theorem x_prods {l X : List F} {n k : Nat} (hs : Shf l n) (hl : X.length = k) (hk : k < n) : loopM (i_ShiftSolve_s3 l X (k : Int)) (some 0, 0) = some (.inl (dotN (fun j => X.getD j none) (fun j => l.getD (k - j) none) k)) := by
  have n8 := hs.n8
  refine loop_go (step := i_ShiftSolve_s3 l X (k : Int)) (fun j : Nat => (dotN (fun j => X.getD j none) (fun j => l.getD (k - j) none) j, (j : Int))) k 0 (fun j _ hj => ?_) ?_
  · have hj : j < k := by omega
    show i_ShiftSolve_b3 l X _ _ (j : Int) = _
    unfold i_ShiftSolve_b3 i_mul
    have w2 : IntKind.i64.wrap ((k : Int) - (j : Int)) = ((k - j : Nat) : Int) := by rw [wi64 (by omega) (by omega)]; omega
    have e2 : dotN (fun j => X.getD j none) (fun j => l.getD (k - j) none) (j + 1) = fop .add .f32 (dotN (fun j => X.getD j none) (fun j => l.getD (k - j) none) j) (fop .mul .f32 (X.getD j none) (l.getD (k - j) none)) := by
      unfold dotN; rw [run_last, Nat.zero_add]; rfl
    rw [hl, dlt hj, bsel_true, at?_n none (by omega), obind_eq, w2, olet_eq, at?_n none (by rw [hs.len]; omega), obind_eq, olet_eq, obind_eq, olet_eq, wsucc (by omega), olet_eq, e2]
  · show i_ShiftSolve_b3 l X _ _ ((0 + k : Nat) : Int) = _
    unfold i_ShiftSolve_b3
    rw [hl, Nat.zero_add, dnlt, bsel_false]
theorem x_back {X A : List F} {k : Nat} {q : F} (hl : X.length = k) (hA : A.length = k) (hk : k ≤ 8) : loopM (i_ShiftSolve_s4 X (k : Int) A q) (X, 0) = some (.inl ((List.range k).map fun i => fop .sub .f32 (X.getD i none) (fop .mul .f32 q (A.getD (k - 1 - i) none)))) := by
  refine setLoop (g := fun i x => fop .sub .f32 x (fop .mul .f32 q (A.getD (k - 1 - i) none))) hl (fun j M hj hM => ?_) fun M hM => ?_
  · show i_ShiftSolve_b4 X (k : Int) A q M (j : Int) = _
    unfold i_ShiftSolve_b4 i_mul
    have w1 : IntKind.i64.wrap ((k : Int) - 1) = (k : Int) - 1 := by rw [wi64 (by omega) (by omega)]
    have w2 : IntKind.i64.wrap ((k : Int) - 1 - (j : Int)) = ((k - 1 - j : Nat) : Int) := by rw [wi64 (by omega) (by omega)]; omega
    rw [hl, dlt hj, bsel_true, at?_n none (by omega), obind_eq, w1, olet_eq, w2, olet_eq, at?_n none (by omega), obind_eq, olet_eq, obind_eq, olet_eq, setAt?_n _ (by omega), obind_eq, wsucc (by omega), olet_eq]
  · show i_ShiftSolve_b4 X (k : Int) A q M (k : Int) = _
    unfold i_ShiftSolve_b4
    rw [hl, dnlt, bsel_false]
theorem x_next {l b X A : List F} {n k : Nat} {e : F} (hs : Shf l n) (hk : k < n) (k0' : 0 < k) (hb : Fv (b.getD k none) ∧ Ab (tv b k) 4) (h : ShX l b k X) (L : Lev l k A e) :
    ∃ q X', fop .quo .f32 (fop .sub .f32 (b.getD k none) (dotN (fun j => X.getD j none) (fun j => l.getD (k - j) none) k)) e = q ∧ ((List.range k).map fun i => fop .sub .f32 (X.getD i none) (fop .mul .f32 q (A.getD (k - 1 - i) none))) ++ [q] = X' ∧ ShX l b (k + 1) X' := by
  have n8 := hs.n8
  obtain ⟨T1, T2, T3, T4, T5, T6, T7, T8, T9, T10, T11, T12, T13, T14, T15⟩ := x_tab k (by omega) k0'
  have k0 : (0 : Rat) ≤ (k : Rat) := by exact_mod_cast Nat.zero_le k
  have k7 : (k : Rat) ≤ 7 := by exact_mod_cast (show k ≤ 7 by omega)
  have lo := L.lo hs (by omega)
  have e8 := L.e8
  obtain ⟨f1, f2, f3⟩ := lev_sum (e := e) hs h.len hk T7 (by grind) h.fv
  have f3 := f3 (2 / 1000000) (by unfold e32; grind) (by decide +kernel) (by decide +kernel)
  generalize hy : dotN (fun j => X.getD j none) (fun j => l.getD (k - j) none) k = y at *
  obtain ⟨ft, bt⟩ := hb
  have bt : Ab (vl (b.getD k none)) 4 := bt
  have m1 : Ab (vl (b.getD k none) - vl y) 19 := ⟨by have := bt.1; have := f2.2; have := f3.2; grind, by have := bt.2; have := f2.1; have := f3.1; grind⟩
  obtain ⟨g1, g2⟩ := fv_sub ft f1 m1 (by decide +kernel)
  have g2 := g2.mono (show e32 19 ≤ 23 / 10000000 by decide +kernel)
  generalize hx : fop .sub .f32 (b.getD k none) y = x at *
  have g3 : Ab (vl x - (vl (b.getD k none) - rs (fun j => vl (X.getD j none) * tv l (k - j)) k)) (17 / 1000000) := ⟨by have := g2.1; have := f3.2; grind, by have := g2.2; have := f3.1; grind⟩
  have g4 : Ab (vl x) (4 + (k : Rat) * xT k + 5 / 100000) := ⟨by have := g3.1; have := bt.1; have := f2.2; grind, by have := g3.2; have := bt.2; have := f2.1; grind⟩
  have q0 : Ab (vl x / vl e) (qT k - 4 / 1000000) := div_ab g4 (by grind) lo T1 (by grind)
  obtain ⟨r1, r2⟩ := fv_quo g1 L.fe (by grind) q0 (by grind)
  have r2 := r2.mono (show e32 (qT k - 4 / 1000000) ≤ 5 / 10000000 by unfold e32; grind)
  generalize hr : fop .quo .f32 x e = r at *
  have rb : Ab (vl r) (qT k) := ⟨by have := q0.1; have := r2.1; grind, by have := q0.2; have := r2.2; grind⟩
  have hG : Ab (vl r * vl e - (vl (b.getD k none) - rs (fun j => vl (X.getD j none) * tv l (k - j)) k)) (3 / 100000) := by
    have e1 : vl x / vl e * vl e = vl x := div_mul_pos (by grind)
    have e2 := r2.mul (show Ab (vl e) 8 from ⟨by grind, e8⟩)
    rw [show (vl r - vl x / vl e) * vl e = vl r * vl e - vl x / vl e * vl e from by grind, e1] at e2
    exact (abTri e2 g3).mono (by grind)
  have nw : ∀ i, i < k → Fv (fop .sub .f32 (X.getD i none) (fop .mul .f32 r (A.getD (k - 1 - i) none))) ∧ Ab (vl (fop .sub .f32 (X.getD i none) (fop .mul .f32 r (A.getD (k - 1 - i) none))) - (vl (X.getD i none) - vl r * vl (A.getD (k - 1 - i) none))) (1 / 1000000) := by
    intro i hi
    obtain ⟨a1, a2⟩ := h.fv i hi
    obtain ⟨b1, b2⟩ := L.fv (k - 1 - i) (by omega)
    have p := rb.mul b2
    exact fv_submul (P := 201 / 100) (M := 401 / 100) a1 r1 b1 (p.mono T13) ((a2.sub p).mono T14) (by decide +kernel) (by decide +kernel) (by decide +kernel)
  have lA' : (((List.range k).map fun i => fop .sub .f32 (X.getD i none) (fop .mul .f32 r (A.getD (k - 1 - i) none))) ++ [r]).length = k + 1 := by simp
  have gA : ∀ i, i < k → (((List.range k).map fun i => fop .sub .f32 (X.getD i none) (fop .mul .f32 r (A.getD (k - 1 - i) none))) ++ [r]).getD i none = fop .sub .f32 (X.getD i none) (fop .mul .f32 r (A.getD (k - 1 - i) none)) := fun i hi => by
    rw [getD_snocC (k := k) (by simp) (by omega), if_neg (by omega), getD_mapR _ hi]
  have gk : (((List.range k).map fun i => fop .sub .f32 (X.getD i none) (fop .mul .f32 r (A.getD (k - 1 - i) none))) ++ [r]).getD k none = r := by
    rw [getD_snocC (k := k) (by simp) (by omega), if_pos rfl]
  refine ⟨r, _, rfl, rfl, ?_⟩
  generalize hA' : ((List.range k).map fun i => fop .sub .f32 (X.getD i none) (fop .mul .f32 r (A.getD (k - 1 - i) none))) ++ [r] = A' at *
  have hd : ∀ j, j < k → Ab (vl (A'.getD j none) - (vl (X.getD j none) - vl r * vl (A.getD (k - 1 - j) none))) (1 / 1000000) := fun j hj => by rw [gA j hj]; exact (nw j hj).2
  have t0 := hs.t0
  have tb : ∀ j, 0 < j → j < k + 1 → Ab (tv l j) 1 := fun j h1 h2 => hs.b j h1 (by omega)
  refine ⟨lA', ?_, ?_⟩
  · intro i hi
    by_cases hik : i = k
    · rw [hik, gk]; exact ⟨r1, rb.mono T4⟩
    · rw [gA i (by omega)]
      obtain ⟨n1, n2⟩ := nw i (by omega)
      refine ⟨n1, ?_⟩
      have p2 := (h.fv i (by omega)).2.sub (rb.mul (L.fv (k - 1 - i) (by omega)).2)
      exact ⟨by have := n2.1; have := p2.1; grind, by have := n2.2; have := p2.2; grind⟩
  · intro i hi
    by_cases hik : i = k
    · rw [hik]
      show Ab (rs (fun j => tv l (dst k j) * vl (A'.getD j none)) k + tv l (dst k k) * vl (A'.getD k none) - tv b k) _
      rw [gk, dst_self, t0, rs_congr (g := fun j => tv l (k - j) * vl (A'.getD j none)) fun j hj => by unfold dst; rw [if_pos (by omega)]]
      have sl := shift_last (t := tv l) (x := fun j => vl (X.getD j none)) (a := fun j => vl (A.getD j none)) (q := vl r) (k := k) (fun j => vl (A'.getD j none))
      have sl : rs (fun j => tv l (k - j) * vl (A'.getD j none)) k = _ := sl
      rw [sl]
      have D := rs_ab (f := fun j => tv l (k - j) * (vl (A'.getD j none) - (vl (X.getD j none) - vl r * vl (A.getD (k - 1 - j) none)))) (e := 1 / 1000000) (n := k) (fun j hj => ((tb (k - j) (by omega) (by omega)).mul (hd j hj)).mono (by grind))
      have ed := rb.mul L.ed
      have hG' : Ab (vl r * vl e - (tv b k - rs (fun j => vl (X.getD j none) * tv l (k - j)) k)) (3 / 100000) := hG
      generalize rs (fun j => tv l (k - j) * (vl (A'.getD j none) - (vl (X.getD j none) - vl r * vl (A.getD (k - 1 - j) none)))) k = D0 at *
      generalize rs (fun j => vl (X.getD j none) * tv l (k - j)) k = S2 at *
      generalize rs (fun j => vl (A.getD j none) * tv l (j + 1)) k = S1 at *
      rw [show S2 - vl r * S1 + D0 + 8 * vl r - tv b k = (vl r * vl e - (tv b k - S2)) - vl r * (vl e - (8 - S1)) + D0 from by grind]
      exact ((hG'.sub ed).add D).mono (by grind)
    · have hi' : i < k := by omega
      show Ab (rs (fun j => tv l (dst i j) * vl (A'.getD j none)) k + tv l (dst i k) * vl (A'.getD k none) - tv b i) _
      rw [gk, show dst i k = k - i from by unfold dst; rw [if_neg (by omega)]]
      have sl := shift_row (t := tv l) (x := fun j => vl (X.getD j none)) (a := fun j => vl (A.getD j none)) (q := vl r) (k := k) (fun j => vl (A'.getD j none)) hi'
      have sl : rs (fun j => tv l (dst i j) * vl (A'.getD j none)) k + tv l (k - i) * vl r - rs (fun j => tv l (dst i j) * vl (X.getD j none)) k = rs (fun j => tv l (dst i j) * (vl (A'.getD j none) - (vl (X.getD j none) - vl r * vl (A.getD (k - 1 - j) none)))) k - vl r * (rs (fun j => tv l (dst (k - 1 - i) j) * vl (A.getD j none)) k - tv l (k - i)) := sl
      have D := row_ab (t := tv l) (d := fun j => vl (A'.getD j none) - (vl (X.getD j none) - vl r * vl (A.getD (k - 1 - j) none))) (e := 1 / 1000000) hi' (by rw [t0]; exact ⟨by decide, by decide⟩) (fun j h1 h2 => tb j h1 (by omega)) hd
      have D : Ab (rs (fun j => tv l (dst i j) * (vl (A'.getD j none) - (vl (X.getD j none) - vl r * vl (A.getD (k - 1 - j) none)))) k) (((k : Rat) + 7) * (1 / 1000000)) := D
      have R1 := h.res i hi'
      have R2 := L.res (k - 1 - i) (by omega)
      rw [show k - 1 - i + 1 = k - i from by omega] at R2
      have R3 := rb.mul R2
      generalize rs (fun j => tv l (dst i j) * (vl (A'.getD j none) - (vl (X.getD j none) - vl r * vl (A.getD (k - 1 - j) none)))) k = D0 at *
      generalize rs (fun j => tv l (dst (k - 1 - i) j) * vl (A.getD j none)) k - tv l (k - i) = E2 at *
      generalize rs (fun j => tv l (dst i j) * vl (X.getD j none)) k = S1 at *
      generalize rs (fun j => tv l (dst i j) * vl (A'.getD j none)) k = S2 at *
      rw [show S2 + tv l (k - i) * vl r - tv b i = (S1 - tv b i) + (D0 - vl r * E2) from by grind]
      exact (R1.add (D.sub R3)).mono (by grind)
theorem Shf.all {l : List F} {n : Nat} (h : Shf l n) : ∀ x ∈ l, Fv x := fun x hx => by
  obtain ⟨i, hi, rfl⟩ := mem_getD hx
  exact h.fv i (by rw [← h.len]; exact hi)
theorem Shf.isl {l : List F} {n : Nat} (h : Shf l n) : i_isList l 12 = some true := isList12_fv (by rw [h.len]; exact h.n0) (by rw [h.len]; have := h.n8; omega) h.all
theorem Shf.shl {l : List F} {n : Nat} (h : Shf l n) : i_isShiftList l = some true := by
  unfold i_isShiftList
  have a0 : at? l 0 = some (some 1090519040) := by rw [← h.h0]; exact at?_n (i := 0) none (by rw [h.len]; exact h.n0)
  rw [h.isl, obind_eq, bsel_true, a0, obind_eq, fv_lt fv_zero.1 eight_fv.1, fv_zero.2, eight_fv.2]
  rfl
theorem refl_loop {l : List F} {n : Nat} (hs : Shf l n) : ∀ (m k : Nat) (A R : List F) (e : F), k + 1 + m = n → Lev l k A e → R.length = k → (∀ x ∈ R, Fv x ∧ Ab (vl x) (51 / 100)) →
    ∃ A' R' e', loopM (i_ReflectionsOf_s1 l) (A, R, e, ((k + 1 : Nat) : Int)) = some (.inl (A', R', e')) ∧ Lev l (n - 1) A' e' ∧ R'.length = n - 1 ∧ (∀ x ∈ R', Fv x ∧ Ab (vl x) (51 / 100))
  | 0, k, A, R, e, hk, h, hR, hf => by
    refine ⟨A, R, e, loopM_out ?_, by rw [show n - 1 = k from by omega]; exact h, by omega, hf⟩
    show i_ReflectionsOf_b1 l A R e _ = _
    unfold i_ReflectionsOf_b1
    rw [hs.len, ← hk, Nat.add_zero, dnlt, bsel_false]
  | m + 1, k, A, R, e, hk, h, hR, hf => by
    have n8 := hs.n8
    obtain ⟨A1, e1, r, x1, x2, x3, x4⟩ := lev_next hs (k := k) (R := R) (by omega) h (by omega)
    obtain ⟨A', R', e', y1, y2, y3, y4⟩ := refl_loop hs m (k + 1) A1 (R ++ [r]) e1 (by omega) x2 (by simp [hR]) (fun x hx => by
      rcases List.mem_append.1 hx with hx | hx
      · exact hf x hx
      · rw [List.mem_singleton.1 hx]; exact ⟨x3, x4⟩)
    refine ⟨A', R', e', ?_, y2, y3, y4⟩
    rw [loopM_next (s' := (A1, R ++ [r], e1, ((k + 1 + 1 : Nat) : Int))), y1]
    show i_ReflectionsOf_b1 l A R e _ = _
    unfold i_ReflectionsOf_b1
    rw [hs.len, dlt (by omega), bsel_true, x1, obind4_eq, Bool.not_true, bsel_false, wsucc (by omega), olet_eq]
theorem refl_ok {l : List F} {n : Nat} (hs : Shf l n) : ∃ e A R, i_ReflectionsOf l = some (e, true, A, R) ∧ A.length = n - 1 ∧ R.length = n - 1 ∧ Fv e ∧ 0 < vl e ∧ vl e ≤ 8 ∧ ∀ x ∈ R, Fv x ∧ Ab (vl x) (51 / 100) := by
  have n8 := hs.n8
  have n0 := hs.n0
  obtain ⟨A, R, e, y1, y2, y3, y4⟩ := refl_loop hs (n - 1) 0 [] [] (some 1090519040) (by omega) (lev_zero hs) rfl (fun x hx => by simp at hx)
  have lo := y2.lo hs (by omega)
  have e0 : 0 < vl e := by
    have := (show ∀ k : Nat, k < 8 → (4 : Rat) ≤ 8 - (k : Rat) * aT k - 5 / 100000 by decide +kernel) (n - 1) (by omega)
    grind
  refine ⟨e, A, R, ?_, y2.len, y3, y2.fe, e0, y2.e8, y4⟩
  unfold i_ReflectionsOf
  have a0 : at? l 0 = some (some 1090519040) := by rw [← hs.h0]; exact at?_n (i := 0) none (by rw [hs.len]; exact n0)
  have y1 : loopM (i_ReflectionsOf_s1 l) ([], [], some 1090519040, 1) = _ := y1
  rw [hs.shl, obind_eq, bsel_true, a0, obind_eq, y1, obind_eq, osum_inl]
  have fA : ∀ x ∈ A, Fv x := fun x hx => by
    obtain ⟨i, hi, rfl⟩ := mem_getD hx
    exact (y2.fv i (by rw [← y2.len]; exact hi)).1
  unfold i_ReflectionsOf_k1
  rw [i_areFinite_eq (fun x hx => (fA x hx).fok) (by rw [y2.len]; omega), List.all_eq_true.2 fun x hx => (fA x hx).fin, obind_eq, bsel_true, i_areFinite_eq (fun x hx => (y4 x hx).1.fok) (by omega), List.all_eq_true.2 fun x hx => (y4 x hx).1.fin, obind_eq, bsel_true, i_IsFinite_eq y2.fe.fok, y2.fe.fin, obind_eq, bsel_true]
theorem shx_loop {l b : List F} {n : Nat} (hs : Shf l n) (hb : ∀ k, k < n → Fv (b.getD k none) ∧ Ab (tv b k) 4) (lb : b.length = n) : ∀ (m k : Nat) (X A R : List F) (e : F), k + 1 + m = n → ShX l b (k + 1) X → Lev l k A e → R.length = k →
    ∃ X', loopM (i_ShiftSolve_s5 l b) (X, A, R, e, ((k + 1 : Nat) : Int)) = some (.inl X') ∧ ShX l b n X'
  | 0, k, X, A, R, e, hk, hX, h, hR => by
    have hk : k + 1 = n := by omega
    refine ⟨X, loopM_out ?_, by rw [← hk]; exact hX⟩
    show i_ShiftSolve_b5 l b X A R e _ = _
    unfold i_ShiftSolve_b5
    rw [hs.len, ← hk, dnlt, bsel_false]
  | m + 1, k, X, A, R, e, hk, hX, h, hR => by
    have n8 := hs.n8
    obtain ⟨A1, e1, r, x1, x2, x3, x4⟩ := lev_next hs (k := k) (R := R) (by omega) h (by omega)
    obtain ⟨q, X1, z1, z2, z3⟩ := x_next hs (k := k + 1) (by omega) (by omega) (hb (k + 1) (by omega)) hX x2
    obtain ⟨X', y1, y2⟩ := shx_loop hs hb lb m (k + 1) X1 A1 (R ++ [r]) e1 (by omega) z3 x2 (by simp [hR])
    refine ⟨X', ?_, y2⟩
    rw [loopM_next (s' := (X1, A1, R ++ [r], e1, ((k + 1 + 1 : Nat) : Int))), y1]
    show i_ShiftSolve_b5 l b X A R e _ = _
    unfold i_ShiftSolve_b5
    rw [hs.len, dlt (by omega), bsel_true, x1, obind4_eq, Bool.not_true, bsel_false, x_prods hs hX.len (by omega), obind_eq, osum_inl]
    unfold i_ShiftSolve_k3
    rw [at?_n none (by omega), obind_eq, olet_eq, z1, olet_eq, x_back hX.len x2.len (by omega), obind_eq, osum_inl]
    unfold i_ShiftSolve_k4
    rw [show apok 4 X.length 1 = true from by simp [apok, hX.len]; omega, need_true, wsucc (by omega), olet_eq, z2]
theorem allFinite_fv {l : List F} (h1 : l.length ≤ 1000000) (f : ∀ x ∈ l, Fv x) : i_allFinite_0o l = some (.inl (true, l)) := by
  unfold i_allFinite_0o
  rw [i_areFinite_eq (fun x hx => (f x hx).fok) (by omega), List.all_eq_true.2 fun x hx => (f x hx).fin, obind_eq, bsel_true]
theorem ShX.all {l b X : List F} {n : Nat} (h : ShX l b n X) : ∀ x ∈ X, Fv x := fun x hx => by
  obtain ⟨i, hi, rfl⟩ := mem_getD hx
  exact (h.fv i (by rw [← h.len]; exact hi)).1
theorem shiftSolve_ok {l b : List F} {n : Nat} (hs : Shf l n) (hb : ∀ k, k < n → Fv (b.getD k none) ∧ Ab (tv b k) 4) (lb : b.length = n) : ∃ X, i_ShiftSolve l b = some (true, X) ∧ ShX l b n X := by
  have n8 := hs.n8
  have n0 := hs.n0
  obtain ⟨f0, c0⟩ := hb 0 n0
  have c0 : Ab (vl (b.getD 0 none)) 4 := c0
  have q0 : Ab (vl (b.getD 0 none) / vl (some 1090519040)) (1 / 2) := by rw [eight_fv.2]; exact div_ab c0 (lo := 8) (by decide) Rat.le_refl (by decide +kernel) (by decide +kernel)
  obtain ⟨r1, r2⟩ := fv_quo f0 eight_fv.1 (by rw [eight_fv.2]; decide) q0 (by decide +kernel)
  have r2 := r2.mono (show e32 (1 / 2) ≤ 6 / 100000000 by decide +kernel)
  have hX : ShX l b 1 [fop .quo .f32 (b.getD 0 none) (some 1090519040)] := by
    refine ⟨rfl, fun i hi => ?_, fun i hi => ?_⟩
    · have : i = 0 := by omega
      subst this
      refine ⟨r1, ?_⟩
      show Ab (vl (fop .quo .f32 (b.getD 0 none) (some 1090519040))) (50001 / 100000)
      exact ⟨by have := r2.1; have := q0.1; grind, by have := r2.2; have := q0.2; grind⟩
    · have : i = 0 := by omega
      subst this
      show Ab (0 + tv l (dst 0 0) * vl (fop .quo .f32 (b.getD 0 none) (some 1090519040)) - vl (b.getD 0 none)) (51 / 10000000)
      rw [dst_self, hs.t0]
      rw [eight_fv.2] at r2
      have e1 : vl (b.getD 0 none) / 8 * 8 = vl (b.getD 0 none) := div_mul_pos (by decide)
      generalize vl (b.getD 0 none) / 8 = w at *
      exact ⟨by have := r2.1; grind, by have := r2.2; grind⟩
  obtain ⟨X, y1, y2⟩ := shx_loop hs hb lb (n - 1) 0 _ [] [] (some 1090519040) (by omega) hX (lev_zero hs) rfl
  have y1 : loopM (i_ShiftSolve_s5 l b) ([fop .quo .f32 (b.getD 0 none) (some 1090519040)], [], [], some 1090519040, 1) = _ := y1
  refine ⟨X, ?_, y2⟩
  unfold i_ShiftSolve
  have a0 : at? l 0 = some (some 1090519040) := by rw [← hs.h0]; exact at?_n (i := 0) none (by rw [hs.len]; exact n0)
  have b0 : at? b 0 = some (b.getD 0 none) := at?_n (i := 0) none (by rw [lb]; exact n0)
  have fb : ∀ x ∈ b, Fv x := fun x hx => by
    obtain ⟨i, hi, rfl⟩ := mem_getD hx
    exact (hb i (by rw [← lb]; exact hi)).1
  rw [hs.shl, obind_eq, bsel_true, lb, hs.len, decide_eq_true rfl, Bool.not_true, bsel_false, i_areFinite_eq (fun x hx => (fb x hx).fok) (by omega), List.all_eq_true.2 fun x hx => (fb x hx).fin, obind_eq, bsel_true, a0, obind_eq, b0, obind_eq, obind_eq, olet_eq, y1, obind_eq, osum_inl]
  unfold i_ShiftSolve_k5
  rw [allFinite_fv (by rw [y2.len]; omega) y2.all, obind_eq, osum_inl, obind2_eq, decide_eq_true rfl, need_true]
def shK (l : List F) (i k : Nat) : F := l.getD (dst i k) none
theorem shift_mk {l : List F} {n : Nat} (hs : Shf l n) : i_shift l = some ((n : Int), (n : Int), tabM n n (shK l)) := by
  have n8 := hs.n8
  unfold i_shift i_length_float32
  rw [obind_eq, hs.len, i_made_2Fi_shift_1_mk (by omega) (by omega) l (K := shK l) (fun i k hi hk => by
    unfold i_shift_1 shK
    have w1 : IntKind.i64.wrap ((i : Int) - (k : Int)) = (i : Int) - (k : Int) := wi64 (by omega) (by omega)
    have w2 : IntKind.i64.wrap ((k : Int) - (i : Int)) = (k : Int) - (i : Int) := wi64 (by omega) (by omega)
    have im : imax ((i : Int) - (k : Int)) ((k : Int) - (i : Int)) = ((dst i k : Nat) : Int) := by
      unfold imax dst
      split <;> split <;> omega
    rw [w1, olet_eq, w2, olet_eq, im, at?_n none (by rw [hs.len]; exact dst_lt hi hk), obind_eq]), obind3_eq]
theorem shiftMatrix_ok {l : List F} {n : Nat} (hs : Shf l n) : i_ShiftMatrix l = some ((n : Int), (n : Int), true, tabM n n (shK l)) := by
  unfold i_ShiftMatrix
  rw [hs.isl, obind_eq, bsel_true, shift_mk hs, obind3_eq]
theorem i_timesV_eq {A B : Nat} {L x : List F} (m : Mat A B L) (hx : x.length = B) : i_Matrix_timesVector (A : Int) (B : Int) L x = some ((List.range A).map fun i => dotN (fun k => gm none L B i k) (fun k => x.getD k none) B) := by
  have hA := m.A1
  have hB := m.C1
  unfold i_Matrix_timesVector
  have e := (loop_run (step := i_Matrix_timesVector_s1 (A : Int) (B : Int) L x) (fun (i : Nat) (l : List F) => (l, (i : Int))) (fun i l => l ++ [dotN (fun k => gm none L B i k) (fun k => x.getD k none) B]) (fun l => l) (fun i l => l.length = i) (lo := 0) (n := A) (Nat.zero_le _) (s0 := []) rfl
    (fun i l _ hi h3 => by
      refine ⟨?_, by simp [h3]⟩
      show i_Matrix_timesVector_b1 _ _ _ _ _ _ = _
      unfold i_Matrix_timesVector_b1 i_Matrix_row x_slices_Clone_float32_float32
      have ap : apok 4 l.length 1 = true := by simp [apok]; omega
      have hiB : i * B ≤ 144 := Nat.le_trans (Nat.mul_le_mul (show i ≤ 12 by omega) hB) (by decide)
      have hiB2 : (i + 1) * B ≤ 156 := Nat.le_trans (Nat.mul_le_mul (show i + 1 ≤ 13 by omega) hB) (by decide)
      have hin : (i + 1) * B ≤ L.length := by rw [m.len]; exact Nat.mul_le_mul_right _ (by omega)
      have hle : i * B ≤ (i + 1) * B := Nat.mul_le_mul_right _ (by omega)
      have sl : sub? L ((i * B : Nat) : Int) (((i + 1) * B : Nat) : Int) = some ((L.take ((i + 1) * B)).drop (i * B)) := sub?_n hle hin
      have ll : ((L.take ((i + 1) * B)).drop (i * B)).length = B := by rw [List.length_drop, List.length_take, Nat.min_eq_left hin, Nat.add_mul, Nat.one_mul]; omega
      have ap2 : apok 4 0 ((L.take ((i + 1) * B)).drop (i * B)).length = true := by rw [ll]; simp [apok]; omega
      rw [dlt hi, bsel_true, ← Int.natCast_mul, wn (by omega), olet_eq, wsucc (by omega), olet_eq, ← Int.natCast_mul, wn (by omega), olet_eq, sl, obind_eq, ap2, need_true, obind_eq, obind_eq, List.nil_append, i_dot_eq (by omega) (by omega), obind_eq, ap, need_true, olet_eq, ll]
      have ed : dotN (fun j => ((L.take ((i + 1) * B)).drop (i * B)).getD j none) (fun j => x.getD j none) B = dotN (fun k => gm none L B i k) (fun k => x.getD k none) B :=
        dotN_congr fun j hj => ⟨by unfold gm; rw [sub_getD (by rw [Nat.add_mul, Nat.one_mul]; omega)], rfl⟩
      rw [ed])
    (fun l _ => by
      show i_Matrix_timesVector_b1 _ _ _ _ _ _ = _
      unfold i_Matrix_timesVector_b1
      rw [dnlt, bsel_false])).1
  rw [Nat.sub_zero, run_map] at e
  have e : loopM (i_Matrix_timesVector_s1 (A : Int) (B : Int) L x) ([], 0) = some (.inl _) := e
  rw [e]; rfl
theorem shift_dot {l b X : List F} {n : Nat} (hs : Shf l n) (h : ShX l b n X) {i : Nat} (hi : i < n) : Fv (dotN (fun k => gm none (tabM n n (shK l)) n i k) (fun k => X.getD k none) n) ∧ Ab (vl (dotN (fun k => gm none (tabM n n (shK l)) n i k) (fun k => X.getD k none) n) - tv b i) (998 / 1000000) := by
  have n8 := hs.n8
  have xb := (show ∀ k : Nat, k < 9 → xT k ≤ 401 / 100 ∧ tauT k ≤ 36 / 100000 by decide +kernel) n (by omega)
  have t8 : ∀ j, j < n → Ab (tv l j) 8 := fun j hj => by
    by_cases h0 : j = 0
    · rw [h0, hs.t0]; exact ⟨by decide, by decide⟩
    · exact (hs.b j (by omega) hj).mono (by decide)
  have pr : ∀ j, j < n → Fv (gm none (tabM n n (shK l)) n i j) ∧ Fv (X.getD j none) ∧ Ab (vl (gm none (tabM n n (shK l)) n i j) * vl (X.getD j none)) (3208 / 100) := by
    intro j hj
    rw [tabM_gm (by omega) (by omega) hi hj]
    exact ⟨hs.fv _ (dst_lt hi hj), (h.fv j hj).1, ((t8 _ (dst_lt hi hj)).mul (h.fv j hj).2).mono (by grind)⟩
  obtain ⟨d1, d2⟩ := dotN_near (P := 3208 / 100) (S := 257) (e := 4 / 100000) (show n ≤ 16 by omega) pr (fun j hj => (rs_ab fun t ht => (pr t (by omega)).2.2).mono (by
    have : (j : Rat) ≤ 8 := by exact_mod_cast (show j ≤ 8 by omega)
    grind)) (by decide +kernel) (by decide +kernel) (by decide +kernel) (by decide +kernel) (by decide +kernel)
  refine ⟨d1, ?_⟩
  rw [rs_congr (g := fun j => tv l (dst i j) * vl (X.getD j none)) fun j hj => by rw [tabM_gm (by omega) (by omega) hi hj]; rfl] at d2
  have n8' : (n : Rat) ≤ 8 := by exact_mod_cast n8
  exact (abTri d2 (h.res i hi)).mono (by grind)
theorem shiftTimes_ok {l b X : List F} {n : Nat} (hs : Shf l n) (h : ShX l b n X) : i_ShiftTimes l X = some (true, (List.range n).map fun i => dotN (fun k => gm none (tabM n n (shK l)) n i k) (fun k => X.getD k none) n) := by
  have n8 := hs.n8
  unfold i_ShiftTimes
  rw [hs.isl, obind_eq, bsel_true, h.len, hs.len, decide_eq_true rfl, Bool.not_true, bsel_false, i_areFinite_eq (fun x hx => (h.all x hx).fok) (by rw [h.len]; omega), List.all_eq_true.2 fun x hx => (h.all x hx).fin, obind_eq, bsel_true, shift_mk hs, obind3_eq, i_timesV_eq (tabM_mat (by omega) (by omega)) h.len, obind_eq, allFinite_fv (by simp; omega) (fun x hx => by
    obtain ⟨i, hi, rfl⟩ := mem_mapR hx
    exact (shift_dot hs h hi).1), obind_eq, osum_inl, obind2_eq, decide_eq_true rfl, need_true]
structure Thr (n : Nat) (Lo Mi Up : List F) : Prop where
  n3 : 3 ≤ n
  n10 : n ≤ 12
  l1 : Lo.length = n
  l2 : Mi.length = n
  l3 : Up.length = n
  lo : ∀ i, i < n → Fv (Lo.getD i none) ∧ Ab (vl (Lo.getD i none)) 1
  up : ∀ i, i < n → Fv (Up.getD i none) ∧ Ab (vl (Up.getD i none)) 1
  mi : ∀ i, i < n → Fv (Mi.getD i none) ∧ 47 / 10 ≤ vl (Mi.getD i none) ∧ vl (Mi.getD i none) ≤ 15
  lo0 : vl (Lo.getD 0 none) = 0
  up0 : vl (Up.getD (n - 1) none) = 0
structure Rhs (n : Nat) (b : List F) (B : Rat) : Prop where
  len : b.length = n
  fv : ∀ i, i < n → Fv (b.getD i none) ∧ Ab (vl (b.getD i none)) B
  b1 : 1 ≤ B
  b8 : B ≤ 8
theorem all_of_getD {l : List F} {n : Nat} (hl : l.length = n) (h : ∀ i, i < n → Fv (l.getD i none)) : ∀ x ∈ l, Fv x := fun x hx => by
  obtain ⟨i, hi, rfl⟩ := mem_getD hx
  exact h i (by rw [← hl]; exact hi)
theorem areFin_fv {l : List F} {n : Nat} (hl : l.length = n) (hn : n ≤ 100) (h : ∀ i, i < n → Fv (l.getD i none)) : i_areFinite l = some true := by
  have f := all_of_getD hl h
  rw [i_areFinite_eq (fun x hx => (f x hx).fok) (by omega), List.all_eq_true.2 fun x hx => (f x hx).fin]
theorem s_fin_fv {l : List F} {n : Nat} (hl : l.length = n) (hn : n ≤ 100) (h : ∀ i, i < n → Fv (l.getD i none)) : s_l02Finite l = some true := by
  have f := all_of_getD hl h
  rw [s_l02Finite_eq (fun x hx => (f x hx).fok) (by omega), List.all_eq_true.2 fun x hx => (f x hx).fin]
theorem Thr.valid {n : Nat} {Lo Mi Up : List F} (h : Thr n Lo Mi Up) : i_ValidThirds Lo Mi Up = some true := by
  have n3 := h.n3
  have n10 := h.n10
  unfold i_ValidThirds
  have z1 : at? Lo 0 = some (Lo.getD 0 none) := at?_n (i := 0) none (by rw [h.l1]; omega)
  have w : IntKind.i64.wrap ((n : Int) - 1) = ((n - 1 : Nat) : Int) := by rw [wi64 (by omega) (by omega)]; omega
  rw [isList_fv (by rw [h.l2]; omega) (by rw [h.l2]; omega) (all_of_getD h.l2 fun i hi => (h.mi i hi).1), obind_eq, bsel_true, h.l1, h.l2, decide_eq_true rfl, bsel_true, h.l3, decide_eq_true rfl, bsel_true, areFin_fv h.l1 (by omega) (fun i hi => (h.lo i hi).1), obind_eq, bsel_true, areFin_fv h.l3 (by omega) (fun i hi => (h.up i hi).1), obind_eq, bsel_true, z1, obind_eq, fv_eq (h.lo 0 (by omega)).1 fv_zero.1, h.lo0, fv_zero.2, decide_eq_true rfl, bsel_true, w, olet_eq, at?_n none (by rw [h.l3]; omega), obind_eq, fv_eq (h.up _ (by omega)).1 fv_zero.1, h.up0, fv_zero.2, decide_eq_true rfl]
theorem Thr.takes {n : Nat} {Lo Mi Up b : List F} (h : Thr n Lo Mi Up) (hb : b.length = n) (fb : ∀ i, i < n → Fv (b.getD i none)) : i_Thirds_takes Lo Mi Up b = some true := by
  have n10 := h.n10
  unfold i_Thirds_takes
  rw [h.valid, obind_eq, bsel_true, hb, h.l2, decide_eq_true rfl, bsel_true, areFin_fv hb (by omega) fb, obind_eq]
theorem Thr.s_fits {n : Nat} {Lo Mi Up b : List F} (h : Thr n Lo Mi Up) (hb : b.length = n) (fb : ∀ i, i < n → Fv (b.getD i none)) : s_l07Fits Lo Mi Up b = some true := by
  have n3 := h.n3
  have n10 := h.n10
  unfold s_l07Fits s_l07Thirds
  have z1 : at? Lo 0 = some (Lo.getD 0 none) := at?_n (i := 0) none (by rw [h.l1]; omega)
  have w : IntKind.i64.wrap ((n : Int) - 1) = ((n - 1 : Nat) : Int) := by rw [wi64 (by omega) (by omega)]; omega
  rw [h.l2, decide_eq_false (by omega), bsel_false, decide_eq_false (by omega), bsel_false, h.l1, decide_eq_true rfl, Bool.not_true, bsel_false, h.l3, decide_eq_true rfl, Bool.not_true, bsel_false, s_fin_fv h.l1 (by omega) (fun i hi => (h.lo i hi).1), obind_eq, bsel_true, s_fin_fv h.l2 (by omega) (fun i hi => (h.mi i hi).1), obind_eq, bsel_true, s_fin_fv h.l3 (by omega) (fun i hi => (h.up i hi).1), obind_eq, bsel_true, z1, obind_eq, fv_eq (h.lo 0 (by omega)).1 fv_zero.1, h.lo0, fv_zero.2, decide_eq_true rfl, bsel_true, w, olet_eq, at?_n none (by rw [h.l3]; omega), obind_eq, fv_eq (h.up _ (by omega)).1 fv_zero.1, h.up0, fv_zero.2, decide_eq_true rfl, obind_eq, bsel_true, hb, decide_eq_true rfl, bsel_true, s_fin_fv hb (by omega) fb, obind_eq]
def thF (Lo Mi Up b : List F) : Nat → F × F
  | 0 => (Mi.getD 0 none, b.getD 0 none)
  | i + 1 => (fop .sub .f32 (Mi.getD (i + 1) none) (fop .mul .f32 (fop .quo .f32 (Lo.getD (i + 1) none) (thF Lo Mi Up b i).1) (Up.getD i none)), fop .sub .f32 (b.getD (i + 1) none) (fop .mul .f32 (fop .quo .f32 (Lo.getD (i + 1) none) (thF Lo Mi Up b i).1) (thF Lo Mi Up b i).2))
def thB (n : Nat) (m y : Nat → F) (Up : List F) : Nat → F
  | 0 => fop .quo .f32 (y (n - 1)) (m (n - 1))
  | t + 1 => fop .quo .f32 (fop .sub .f32 (y (n - 2 - t)) (fop .mul .f32 (Up.getD (n - 2 - t) none) (thB n m y Up t))) (m (n - 2 - t))
theorem getD_setN {L : List F} {i j : Nat} {x : F} (hj : j < L.length) : (L.set i x).getD j none = if i = j then x else L.getD j none := by
  by_cases h : i = j
  · subst h; rw [if_pos rfl]; simp [List.getD, hj]
  · rw [if_neg h]; simp [List.getD, List.getElem?_set_ne h]
theorem th_fwd {n : Nat} {Lo Mi Up b : List F} (n1 : 1 ≤ n) (n12 : n ≤ 12) (l1 : Lo.length = n) (l2 : Mi.length = n) (l3 : Up.length = n) (lb : b.length = n) :
    ∃ M Y, loopM (i_ThirdsSolve_s1 Lo Up b) (Mi, b, 1) = some (.inl (M, Y)) ∧ M.length = n ∧ Y.length = n ∧ ∀ j, j < n → M.getD j none = (thF Lo Mi Up b j).1 ∧ Y.getD j none = (thF Lo Mi Up b j).2 := by
  obtain ⟨e, i1, i2, i3⟩ := loop_run (step := i_ThirdsSolve_s1 Lo Up b) (fun (i : Nat) (s : List F × List F) => (s.1, s.2, (i : Int)))
    (fun i s => (s.1.set i (fop .sub .f32 (s.1.getD i none) (fop .mul .f32 (fop .quo .f32 (Lo.getD i none) (s.1.getD (i - 1) none)) (Up.getD (i - 1) none))), s.2.set i (fop .sub .f32 (s.2.getD i none) (fop .mul .f32 (fop .quo .f32 (Lo.getD i none) (s.1.getD (i - 1) none)) (s.2.getD (i - 1) none)))))
    (fun s => s) (fun i s => s.1.length = n ∧ s.2.length = n ∧ ∀ j, j < n → (j < i → s.1.getD j none = (thF Lo Mi Up b j).1 ∧ s.2.getD j none = (thF Lo Mi Up b j).2) ∧ (i ≤ j → s.1.getD j none = Mi.getD j none ∧ s.2.getD j none = b.getD j none))
    (lo := 1) (n := n) n1 (s0 := (Mi, b)) ⟨l2, lb, fun j hj => ⟨fun h => by
      have : j = 0 := by omega
      subst this; exact ⟨rfl, rfl⟩, fun _ => ⟨rfl, rfl⟩⟩⟩
    (fun i s h1 hi ⟨a1, a2, a3⟩ => by
      refine ⟨?_, by simp [a1], by simp [a2], fun j hj => ⟨fun hji => ?_, fun hij => ?_⟩⟩
      · show i_ThirdsSolve_b1 Lo Up b s.1 s.2 (i : Int) = _
        unfold i_ThirdsSolve_b1 i_mul
        have w : IntKind.i64.wrap ((i : Int) - 1) = ((i - 1 : Nat) : Int) := by rw [wi64 (by omega) (by omega)]; omega
        rw [lb, dlt hi, bsel_true, at?_n none (by omega), obind_eq, w, olet_eq, at?_n none (by omega), obind_eq, olet_eq, at?_n none (by omega), obind_eq, olet_eq, at?_n none (by omega), obind_eq, olet_eq, obind_eq, olet_eq, setAt?_n _ (by omega), obind_eq, at?_n none (by omega), obind_eq, olet_eq, at?_n none (by omega), obind_eq, olet_eq, obind_eq, olet_eq, setAt?_n _ (by omega), obind_eq, wsucc (by omega), olet_eq]
      · show (s.1.set i _).getD j none = _ ∧ (s.2.set i _).getD j none = _
        rw [getD_setN (by omega), getD_setN (by omega)]
        by_cases h : i = j
        · subst h
          obtain ⟨c1, c2⟩ := (a3 i hi).2 (Nat.le_refl _)
          obtain ⟨d1, d2⟩ := (a3 (i - 1) (by omega)).1 (by omega)
          obtain ⟨k, rfl⟩ : ∃ k, i = k + 1 := ⟨i - 1, by omega⟩
          rw [if_pos rfl, if_pos rfl, c1, c2, d1, d2]
          exact ⟨rfl, rfl⟩
        · rw [if_neg h, if_neg h]; exact (a3 j hj).1 (by omega)
      · show (s.1.set i _).getD j none = _ ∧ (s.2.set i _).getD j none = _
        rw [getD_setN (by omega), getD_setN (by omega), if_neg (by omega), if_neg (by omega)]
        exact (a3 j hj).2 (by omega))
    (fun s ⟨a1, a2, _⟩ => by
      show i_ThirdsSolve_b1 Lo Up b s.1 s.2 (n : Int) = _
      unfold i_ThirdsSolve_b1
      rw [lb, dnlt, bsel_false])
  exact ⟨_, _, e, i1, i2, fun j hj => (i3 j hj).1 hj⟩
theorem th_bwd {n : Nat} {Up b M : List F} {m y : Nat → F} (n12 : n ≤ 12) (l3 : Up.length = n) (lb : b.length = n) (lM : M.length = n) (hm : ∀ j, j < n → M.getD j none = m j) :
    ∀ (v : Nat) (L : List F), v ≤ n → L.length = n → (∀ j, j < n → (v ≤ j → L.getD j none = thB n m y Up (n - 1 - j)) ∧ (j < v → L.getD j none = y j)) →
      ∃ X, loopM (i_ThirdsSolve_s4 Up b M) (L, (v : Int) - 1) = some (.inl X) ∧ X.length = n ∧ ∀ j, j < n → X.getD j none = thB n m y Up (n - 1 - j)
  | 0, L, hv, hL, h => by
    refine ⟨L, loopM_out ?_, hL, fun j hj => (h j hj).1 (Nat.zero_le _)⟩
    show i_ThirdsSolve_b4 Up b M L _ = _
    unfold i_ThirdsSolve_b4
    rw [decide_eq_false (by omega), bsel_false]
  | v + 1, L, hv, hL, h => by
    have hv' : v < n := by omega
    have body : ∃ L', L'.length = n ∧ (∀ j, j < n → (v ≤ j → L'.getD j none = thB n m y Up (n - 1 - j)) ∧ (j < v → L'.getD j none = y j)) ∧ i_ThirdsSolve_s4 Up b M (L, ((v + 1 : Nat) : Int) - 1) = some (.next (L', (v : Int) - 1)) := by
      have iv : ((v + 1 : Nat) : Int) - 1 = (v : Int) := by omega
      have yv := (h v hv').2 (by omega)
      rw [iv]
      have wm : IntKind.i64.wrap ((v : Int) - 1) = (v : Int) - 1 := wi64 (by omega) (by omega)
      by_cases hl : v + 1 < n
      · have xv := (h (v + 1) hl).1 (Nat.le_refl _)
        refine ⟨(L.set v (fop .sub .f32 (L.getD v none) (fop .mul .f32 (Up.getD v none) (L.getD (v + 1) none)))).set v (fop .quo .f32 (fop .sub .f32 (L.getD v none) (fop .mul .f32 (Up.getD v none) (L.getD (v + 1) none))) (M.getD v none)), by simp [hL], fun j hj => ?_, ?_⟩
        · rw [getD_setN (by simp [hL]; omega)]
          refine ⟨fun hvj => ?_, fun hjv => ?_⟩
          · by_cases e : v = j
            · subst e
              rw [if_pos rfl, yv, xv, hm v hv', show n - 1 - v = (n - 1 - (v + 1)) + 1 from by omega]
              show _ = fop .quo .f32 (fop .sub .f32 (y (n - 2 - (n - 1 - (v + 1)))) (fop .mul .f32 (Up.getD (n - 2 - (n - 1 - (v + 1))) none) (thB n m y Up (n - 1 - (v + 1))))) (m (n - 2 - (n - 1 - (v + 1))))
              rw [show n - 2 - (n - 1 - (v + 1)) = v from by omega]
            · rw [if_neg e, getD_setN (by omega), if_neg e]; exact (h j hj).1 (by omega)
          · rw [if_neg (by omega), getD_setN (by omega), if_neg (by omega)]; exact (h j hj).2 (by omega)
        · show i_ThirdsSolve_b4 Up b M L (v : Int) = _
          unfold i_ThirdsSolve_b4 i_mul
          rw [decide_eq_true (by omega), bsel_true, wsucc (by omega), olet_eq, lb, dlt hl, bsel_true, at?_n none (by omega), obind_eq, at?_n none (by omega), obind_eq, olet_eq, at?_n none (by omega), obind_eq, olet_eq, obind_eq, olet_eq, setAt?_n _ (by omega), obind_eq]
          unfold i_ThirdsSolve_k3
          rw [at?_n none (by simp; omega), obind_eq, at?_n none (by omega), obind_eq, olet_eq, setAt?_n _ (by simp; omega), obind_eq, wm, olet_eq, getD_setN (by omega), if_pos rfl]
      · have hn : v = n - 1 := by omega
        refine ⟨L.set v (fop .quo .f32 (L.getD v none) (M.getD v none)), by simp [hL], fun j hj => ?_, ?_⟩
        · rw [getD_setN (by omega)]
          refine ⟨fun hvj => ?_, fun hjv => ?_⟩
          · have e : v = j := by omega
            subst e
            rw [if_pos rfl, yv, hm v hv', show n - 1 - v = 0 from by omega]
            show _ = fop .quo .f32 (y (n - 1)) (m (n - 1))
            rw [hn]
          · rw [if_neg (by omega)]; exact (h j hj).2 (by omega)
        · show i_ThirdsSolve_b4 Up b M L (v : Int) = _
          unfold i_ThirdsSolve_b4
          rw [decide_eq_true (by omega), bsel_true, wsucc (by omega), olet_eq, lb, decide_eq_false (by omega), bsel_false]
          unfold i_ThirdsSolve_k3
          rw [at?_n none (by omega), obind_eq, at?_n none (by omega), obind_eq, olet_eq, setAt?_n _ (by omega), obind_eq, wm, olet_eq]
    obtain ⟨L', b1, b2, b3⟩ := body
    obtain ⟨X, x1, x2⟩ := th_bwd n12 l3 lb lM hm v L' (by omega) b1 b2
    exact ⟨X, by rw [loopM_next b3, x1], x2⟩
noncomputable def thRow (Lo Mi Up x : List F) (n i : Nat) : Rat := (if 0 < i then vl (Lo.getD i none) * vl (x.getD (i - 1) none) else 0) + vl (Mi.getD i none) * vl (x.getD i none) + (if i + 1 < n then vl (Up.getD i none) * vl (x.getD (i + 1) none) else 0)
structure FwOk (Lo Mi Up b : List F) (B : Rat) (i : Nat) : Prop where
  fm : Fv (thF Lo Mi Up b i).1
  ml : 44 / 10 ≤ vl (thF Lo Mi Up b i).1
  mu : vl (thF Lo Mi Up b i).1 ≤ 153 / 10
  fy : Fv (thF Lo Mi Up b i).2
  yb : Ab (vl (thF Lo Mi Up b i).2) (11 / 8 * B)
theorem e32_lin {M B c : Rat} (hM : M ≤ c * B) (hB : 1 ≤ B) (hc : 0 ≤ c) : e32 M ≤ (c / 8388608 + 1 / 1000000000000000) * B := by
  unfold e32
  have : (1 : Rat) / 1000000000000000 * 1 ≤ 1 / 1000000000000000 * B := Rat.mul_le_mul_of_nonneg_left hB (by decide +kernel)
  grind
theorem fw_step {Lo Mi Up b : List F} {n i : Nat} {B : Rat} (h : Thr n Lo Mi Up) (hb : Rhs n b B) (hi : i + 1 < n) (hf : FwOk Lo Mi Up b B i) :
    FwOk Lo Mi Up b B (i + 1) ∧ ∃ f : Rat, Ab f (1 / 4) ∧ Ab (f * vl (thF Lo Mi Up b i).1 - vl (Lo.getD (i + 1) none)) (1 / 1000000) ∧
      Ab (vl (thF Lo Mi Up b (i + 1)).1 - (vl (Mi.getD (i + 1) none) - f * vl (Up.getD i none))) (2 / 1000000) ∧ Ab (vl (thF Lo Mi Up b (i + 1)).2 - (vl (b.getD (i + 1) none) - f * vl (thF Lo Mi Up b i).2)) (3 / 1000000) := by
  obtain ⟨fl, bl⟩ := h.lo (i + 1) hi
  obtain ⟨fu, bu⟩ := h.up i (by omega)
  obtain ⟨fmi, m1, m2⟩ := h.mi (i + 1) hi
  obtain ⟨fb, bb⟩ := hb.fv (i + 1) hi
  have B1 := hb.b1
  have B8 := hb.b8
  have q0 : Ab (vl (Lo.getD (i + 1) none) / vl (thF Lo Mi Up b i).1) (2273 / 10000) := div_ab bl (lo := 44 / 10) (by decide +kernel) hf.ml (by decide +kernel) (by decide +kernel)
  have ml := hf.ml
  have mu := hf.mu
  obtain ⟨f1, f2⟩ := fv_quo fl hf.fm (by grind) q0 (by decide +kernel)
  have f2 := f2.mono (show e32 (2273 / 10000) ≤ 3 / 100000000 by decide +kernel)
  have e1 : vl (Lo.getD (i + 1) none) / vl (thF Lo Mi Up b i).1 * vl (thF Lo Mi Up b i).1 = vl (Lo.getD (i + 1) none) := div_mul_pos (by grind)
  have em := f2.mul (show Ab (vl (thF Lo Mi Up b i).1) (153 / 10) from ⟨by grind, mu⟩)
  rw [show (vl (fop .quo .f32 (Lo.getD (i + 1) none) (thF Lo Mi Up b i).1) - vl (Lo.getD (i + 1) none) / vl (thF Lo Mi Up b i).1) * vl (thF Lo Mi Up b i).1 = vl (fop .quo .f32 (Lo.getD (i + 1) none) (thF Lo Mi Up b i).1) * vl (thF Lo Mi Up b i).1 - vl (Lo.getD (i + 1) none) / vl (thF Lo Mi Up b i).1 * vl (thF Lo Mi Up b i).1 from by grind, e1] at em
  have fb' : Ab (vl (fop .quo .f32 (Lo.getD (i + 1) none) (thF Lo Mi Up b i).1)) (1 / 4) := ⟨by have := q0.1; have := f2.1; grind, by have := q0.2; have := f2.2; grind⟩
  have hm : (thF Lo Mi Up b (i + 1)).1 = fop .sub .f32 (Mi.getD (i + 1) none) (fop .mul .f32 (fop .quo .f32 (Lo.getD (i + 1) none) (thF Lo Mi Up b i).1) (Up.getD i none)) := rfl
  have hy : (thF Lo Mi Up b (i + 1)).2 = fop .sub .f32 (b.getD (i + 1) none) (fop .mul .f32 (fop .quo .f32 (Lo.getD (i + 1) none) (thF Lo Mi Up b i).1) (thF Lo Mi Up b i).2) := rfl
  generalize fop .quo .f32 (Lo.getD (i + 1) none) (thF Lo Mi Up b i).1 = f at *
  have pu := fb'.mul bu
  obtain ⟨a1, a2⟩ := fv_submul (P := 1 / 4) (M := 1525 / 100) (e := 2 / 1000000) fmi f1 fu (pu.mono (by decide +kernel)) ⟨by have := pu.2; grind, by have := pu.1; grind⟩ (by decide +kernel) (by decide +kernel) (by decide +kernel)
  have py := fb'.mul hf.yb
  have sy := bb.sub py
  obtain ⟨c1, c2⟩ := fv_submul (P := 1 / 4 * (11 / 8 * B)) (M := B + 1 / 4 * (11 / 8 * B)) (e := (2 / 8388608 + 2 / 1000000000000000) * B) fb f1 hf.fy py sy (by grind) (by grind) (by
    have l1 := e32_lin (M := 1 / 4 * (11 / 8 * B)) (B := B) (c := 11 / 32) (by grind) B1 (by decide +kernel)
    have l2 := e32_lin (M := B + 1 / 4 * (11 / 8 * B) + e32 (1 / 4 * (11 / 8 * B))) (B := B) (c := 14 / 10) (by grind) B1 (by decide +kernel)
    grind)
  rw [hm, hy]
  refine ⟨⟨by rw [hm]; exact a1, by rw [hm]; have := a2.1; have := pu.2; grind, by rw [hm]; have := a2.2; have := pu.1; grind, by rw [hy]; exact c1, ?_⟩, vl f, fb', em.mono (by decide +kernel), a2, c2.mono (by grind)⟩
  rw [hy]
  exact ⟨by have := c2.1; have := sy.1; grind, by have := c2.2; have := sy.2; grind⟩
theorem fw_ok {Lo Mi Up b : List F} {n : Nat} {B : Rat} (h : Thr n Lo Mi Up) (hb : Rhs n b B) : ∀ i, i < n → FwOk Lo Mi Up b B i
  | 0, hi => by
    obtain ⟨fmi, m1, m2⟩ := h.mi 0 hi
    obtain ⟨fb, bb⟩ := hb.fv 0 hi
    have B1 := hb.b1
    exact ⟨fmi, by show _ ≤ vl (Mi.getD 0 none); grind, by show vl (Mi.getD 0 none) ≤ _; grind, fb, bb.mono (by grind)⟩
  | i + 1, hi => (fw_step h hb hi (fw_ok h hb i (by omega))).1
theorem quo_step {z m : F} {Z : Rat} {c B : Rat} (hz : Fv z) (hm : Fv m) (ml : 44 / 10 ≤ vl m) (mu : vl m ≤ 153 / 10) (zb : Ab (vl z) (c * B)) (hc : c ≤ 1805 / 1000) (c0 : 0 ≤ c) (B1 : 1 ≤ B) (B8 : B ≤ 8) :
    Fv (fop .quo .f32 z m) ∧ Ab (vl (fop .quo .f32 z m)) (33 / 80 * B) ∧ Ab (vl m * vl (fop .quo .f32 z m) - vl z) (62 / 10000000) := by
  have q0 : Ab (vl z / vl m) (4103 / 10000 * B) := div_ab zb (lo := 44 / 10) (by decide +kernel) ml (by
    have := Rat.mul_le_mul_of_nonneg_right hc (show 0 ≤ B by grind)
    grind) (by grind)
  obtain ⟨f1, f2⟩ := fv_quo hz hm (by grind) q0 (by grind)
  have l := e32_lin (M := 4103 / 10000 * B) (B := B) (c := 4103 / 10000) Rat.le_refl B1 (by decide +kernel)
  have f2 := f2.mono l
  have e1 : vl z / vl m * vl m = vl z := div_mul_pos (by grind)
  have em := f2.mul (show Ab (vl m) (153 / 10) from ⟨by grind, mu⟩)
  rw [show (vl (fop .quo .f32 z m) - vl z / vl m) * vl m = vl m * vl (fop .quo .f32 z m) - vl z / vl m * vl m from by grind, e1] at em
  exact ⟨f1, ⟨by have := q0.1; have := f2.1; grind, by have := q0.2; have := f2.2; grind⟩, em.mono (by grind)⟩
theorem th_solve {Lo Mi Up b : List F} {n : Nat} {B : Rat} (h : Thr n Lo Mi Up) (hb : Rhs n b B) :
    ∃ x, i_ThirdsSolve Lo Mi Up b = some (true, x) ∧ x.length = n ∧ ∀ i, i < n → Fv (x.getD i none) ∧ Ab (vl (x.getD i none)) (33 / 80 * B) ∧ Ab (thRow Lo Mi Up x n i - vl (b.getD i none)) (3 / 100000) := by
  have n3 := h.n3
  have n12 := h.n10
  have B1 := hb.b1
  have B8 := hb.b8
  obtain ⟨M, Y, e1, lM, lY, hMY⟩ := th_fwd (by omega) n12 h.l1 h.l2 h.l3 hb.len
  have fw := fw_ok h hb
  obtain ⟨X, e2, lX, hX⟩ := th_bwd (m := fun j => (thF Lo Mi Up b j).1) (y := fun j => (thF Lo Mi Up b j).2) n12 h.l3 hb.len lM (fun j hj => (hMY j hj).1) n Y (Nat.le_refl _) lY (fun j hj => ⟨fun hc => by omega, fun _ => (hMY j hj).2⟩)
  -- the numbers backwards
  have bk : ∀ t, t < n → Fv (X.getD (n - 1 - t) none) ∧ Ab (vl (X.getD (n - 1 - t) none)) (33 / 80 * B) ∧ Ab (vl (thF Lo Mi Up b (n - 1 - t)).1 * vl (X.getD (n - 1 - t) none) - (vl (thF Lo Mi Up b (n - 1 - t)).2 - (if n - 1 - t + 1 < n then vl (Up.getD (n - 1 - t) none) * vl (X.getD (n - 1 - t + 1) none) else 0))) (10 / 1000000) := by
    intro t
    induction t with
    | zero =>
      intro ht
      have w := fw (n - 1) (by omega)
      have hx := hX (n - 1) (by omega)
      rw [show n - 1 - (n - 1) = 0 from by omega] at hx
      have hx : X.getD (n - 1) none = fop .quo .f32 (thF Lo Mi Up b (n - 1)).2 (thF Lo Mi Up b (n - 1)).1 := hx
      rw [Nat.sub_zero, if_neg (by omega), hx]
      obtain ⟨g1, g2, g3⟩ := quo_step (Z := 0) (c := 11 / 8) w.fy w.fm w.ml w.mu w.yb (by decide +kernel) (by decide +kernel) B1 B8
      exact ⟨g1, g2, ⟨by have := g3.1; grind, by have := g3.2; grind⟩⟩
    | succ t ih =>
      intro ht
      obtain ⟨p1, p2, _⟩ := ih (by omega)
      have w := fw (n - 1 - (t + 1)) (by omega)
      have hx := hX (n - 1 - (t + 1)) (by omega)
      rw [show n - 1 - (n - 1 - (t + 1)) = t + 1 from by omega] at hx
      have hx1 := hX (n - 1 - t) (by omega)
      rw [show n - 1 - (n - 1 - t) = t from by omega] at hx1
      have hx : X.getD (n - 1 - (t + 1)) none = fop .quo .f32 (fop .sub .f32 (thF Lo Mi Up b (n - 2 - t)).2 (fop .mul .f32 (Up.getD (n - 2 - t) none) (thB n (fun j => (thF Lo Mi Up b j).1) (fun j => (thF Lo Mi Up b j).2) Up t))) (thF Lo Mi Up b (n - 2 - t)).1 := hx
      rw [← hx1] at hx
      rw [if_pos (by omega), show n - 1 - (t + 1) + 1 = n - 1 - t from by omega, hx]
      rw [show n - 2 - t = n - 1 - (t + 1) from by omega]
      obtain ⟨fu, bu⟩ := h.up (n - 1 - (t + 1)) (by omega)
      have pu := bu.mul p2
      have su := w.yb.sub pu
      obtain ⟨c1, c2⟩ := fv_submul (P := 1 * (33 / 80 * B)) (M := 11 / 8 * B + 1 * (33 / 80 * B)) (e := (3 / 8388608 + 2 / 1000000000000000) * B) w.fy fu p1 pu su (by grind) (by grind) (by
        have l1 := e32_lin (M := 1 * (33 / 80 * B)) (B := B) (c := 33 / 80) (by grind) B1 (by decide +kernel)
        have l2 := e32_lin (M := 11 / 8 * B + 1 * (33 / 80 * B) + e32 (1 * (33 / 80 * B))) (B := B) (c := 18 / 10) (by grind) B1 (by decide +kernel)
        grind)
      have zb : Ab (vl (fop .sub .f32 (thF Lo Mi Up b (n - 1 - (t + 1))).2 (fop .mul .f32 (Up.getD (n - 1 - (t + 1)) none) (X.getD (n - 1 - t) none)))) (1789 / 1000 * B) := ⟨by have := c2.1; have := su.1; grind, by have := c2.2; have := su.2; grind⟩
      obtain ⟨g1, g2, g3⟩ := quo_step (Z := 0) (c := 1789 / 1000) c1 w.fm w.ml w.mu zb (by decide +kernel) (by decide +kernel) B1 B8
      exact ⟨g1, g2, (abTri g3 c2).mono (by grind)⟩
  have bx : ∀ i, i < n → Fv (X.getD i none) ∧ Ab (vl (X.getD i none)) (33 / 80 * B) ∧ Ab (vl (thF Lo Mi Up b i).1 * vl (X.getD i none) - (vl (thF Lo Mi Up b i).2 - (if i + 1 < n then vl (Up.getD i none) * vl (X.getD (i + 1) none) else 0))) (10 / 1000000) := by
    intro i hi
    have := bk (n - 1 - i) (by omega)
    rw [show n - 1 - (n - 1 - i) = i from by omega] at this
    exact this
  refine ⟨X, ?_, lX, fun i hi => ⟨(bx i hi).1, (bx i hi).2.1, ?_⟩⟩
  · unfold i_ThirdsSolve x_slices_Clone_float32_float32
    rw [h.takes hb.len (fun i hi => (hb.fv i hi).1), obind_eq, bsel_true, show apok 4 0 Mi.length = true from by simp [apok, h.l2]; omega, need_true, obind_eq, show apok 4 0 b.length = true from by simp [apok, hb.len]; omega, need_true, obind_eq, List.nil_append, List.nil_append, e1, obind_eq, osum_inl]
    unfold i_ThirdsSolve_k1 x_slices_Contains_float32_float32 x_slices_Index_float32_float32
    have ec : loopM (x_slices_Index_float32_float32_s1 M (some 0)) 0 = some (.inl ()) := by
      refine loop_go (step := x_slices_Index_float32_float32_s1 M (some 0)) (fun j : Nat => (j : Int)) n 0 (fun j _ hj => ?_) ?_
      · have hj : j < n := by omega
        have w := fw j hj
        show x_slices_Index_float32_float32_b1 M (some 0) (j : Int) = _
        unfold x_slices_Index_float32_float32_b1
        rw [lM, dlt hj, bsel_true, at?_n none (by omega), obind_eq, (hMY j hj).1, fv_eq fv_zero.1 w.fm, fv_zero.2, decide_eq_false (by have := w.ml; grind), bsel_false, wsucc (by omega), olet_eq]
      · show x_slices_Index_float32_float32_b1 M (some 0) ((0 + n : Nat) : Int) = _
        unfold x_slices_Index_float32_float32_b1
        rw [lM, Nat.zero_add, dnlt, bsel_false]
    rw [ec, obind_eq, osum_inl]
    unfold x_slices_Index_float32_float32_k1
    rw [obind_eq, obind_eq, show decide ((0 : Int) ≤ -1) = false from by decide, bsel_false, hb.len, wi64 (by omega) (by omega), olet_eq, e2, obind_eq, osum_inl]
    unfold i_ThirdsSolve_k4
    rw [allFinite_fv (by omega) (all_of_getD lX fun i hi => (bx i hi).1), obind_eq, osum_inl, obind2_eq, decide_eq_true (by rw [lX, hb.len]), need_true]
  · obtain ⟨x1, x2, x3⟩ := bx i hi
    have x2' : Ab (vl (X.getD i none)) (33 / 10) := x2.mono (by grind)
    unfold thRow
    cases i with
    | zero =>
      rw [if_neg (by decide)]
      have x3 : Ab (vl (Mi.getD 0 none) * vl (X.getD 0 none) - (vl (b.getD 0 none) - (if 0 + 1 < n then vl (Up.getD 0 none) * vl (X.getD (0 + 1) none) else 0))) (10 / 1000000) := x3
      generalize (if 0 + 1 < n then vl (Up.getD 0 none) * vl (X.getD (0 + 1) none) else 0) = u at *
      exact ⟨by have := x3.1; grind, by have := x3.2; grind⟩
    | succ i =>
      rw [if_pos (by omega), show i + 1 - 1 = i from by omega]
      obtain ⟨_, f, f1, f2, f3, f4⟩ := fw_step h hb hi (fw i (by omega))
      obtain ⟨y1, y2, y3⟩ := bx i (by omega)
      rw [if_pos hi] at y3
      have y2' : Ab (vl (X.getD i none)) (33 / 10) := y2.mono (by grind)
      generalize (if i + 1 + 1 < n then vl (Up.getD (i + 1) none) * vl (X.getD (i + 1 + 1) none) else 0) = u at *
      have k1 := f1.mul y3
      have k2 := f2.mul y2'
      have k3 := f3.mul x2'
      generalize vl (thF Lo Mi Up b (i + 1)).1 = m1 at *
      generalize vl (thF Lo Mi Up b (i + 1)).2 = w1 at *
      generalize vl (thF Lo Mi Up b i).1 = m0 at *
      generalize vl (thF Lo Mi Up b i).2 = w0 at *
      generalize vl (Lo.getD (i + 1) none) = L1 at *
      generalize vl (Mi.getD (i + 1) none) = M1 at *
      generalize vl (Up.getD i none) = U0 at *
      generalize vl (X.getD i none) = X0 at *
      generalize vl (X.getD (i + 1) none) = X1 at *
      generalize vl (b.getD (i + 1) none) = b1 at *
      have key : L1 * X0 + M1 * X1 + u - b1 = f * (m0 * X0 - (w0 - U0 * X1)) - (f * m0 - L1) * X0 - (m1 - (M1 - f * U0)) * X1 + (m1 * X1 - (w1 - u)) + (w1 - (b1 - f * w0)) := by grind
      rw [key]
      exact ((((k1.sub k2).sub k3).add x3).add f4).mono (by decide +kernel)
noncomputable def ttE (Lo Mi Up x : List F) (n i : Nat) : F :=
  let s0 := if 0 < i then fop .add .f32 (some 0) (fop .mul .f32 (Lo.getD i none) (x.getD (i - 1) none)) else some 0
  let s1 := fop .add .f32 s0 (fop .mul .f32 (Mi.getD i none) (x.getD i none))
  if i + 1 < n then fop .add .f32 s1 (fop .mul .f32 (Up.getD i none) (x.getD (i + 1) none)) else s1
theorem tt_near {Lo Mi Up x : List F} {n i : Nat} (h : Thr n Lo Mi Up) (hi : i < n) (hx : ∀ j, j < n → Fv (x.getD j none) ∧ Ab (vl (x.getD j none)) 11) : Fv (ttE Lo Mi Up x n i) ∧ Ab (vl (ttE Lo Mi Up x n i) - thRow Lo Mi Up x n i) (9 / 100000) ∧ Ab (thRow Lo Mi Up x n i) 187 := by
  obtain ⟨fl, bl⟩ := h.lo i hi
  obtain ⟨fu, bu⟩ := h.up i hi
  obtain ⟨fm, m1, m2⟩ := h.mi i hi
  obtain ⟨fx, bx⟩ := hx i hi
  have s0 : ∃ y, y = (if 0 < i then fop .add .f32 (some 0) (fop .mul .f32 (Lo.getD i none) (x.getD (i - 1) none)) else some 0) ∧ Fv y ∧ Ab (vl y - (if 0 < i then vl (Lo.getD i none) * vl (x.getD (i - 1) none) else 0)) (3 / 1000000) ∧ Ab (if 0 < i then vl (Lo.getD i none) * vl (x.getD (i - 1) none) else 0) 11 := by
    by_cases h0 : 0 < i
    · rw [if_pos h0, if_pos h0]
      obtain ⟨fy, by'⟩ := hx (i - 1) (by omega)
      have p := bl.mul by'
      obtain ⟨a1, a2⟩ := fv_addmul (P := 11) (M := 11) (e := 3 / 1000000) fv_zero.1 fl fy (p.mono (by decide +kernel)) (by rw [fv_zero.2]; exact ⟨by have := p.1; grind, by have := p.2; grind⟩) (by decide +kernel) (by decide +kernel) (by decide +kernel)
      rw [fv_zero.2] at a2
      exact ⟨_, rfl, a1, ⟨by have := a2.1; grind, by have := a2.2; grind⟩, p.mono (by decide +kernel)⟩
    · rw [if_neg h0, if_neg h0]
      exact ⟨_, rfl, fv_zero.1, by rw [fv_zero.2]; exact ⟨by grind, by grind⟩, ⟨by decide, by decide⟩⟩
  obtain ⟨y, ey, fy, y1, y2⟩ := s0
  have bm : Ab (vl (Mi.getD i none)) 15 := ⟨by grind, m2⟩
  have pm := bm.mul bx
  obtain ⟨c1, c2⟩ := fv_addmul (P := 165) (M := 177) (e := 45 / 1000000) fy fm fx (pm.mono (by decide +kernel)) ⟨by have := pm.1; have := y1.1; have := y2.1; grind, by have := pm.2; have := y1.2; have := y2.2; grind⟩ (by decide +kernel) (by decide +kernel) (by decide +kernel)
  unfold ttE thRow
  rw [← ey]
  generalize (if 0 < i then vl (Lo.getD i none) * vl (x.getD (i - 1) none) else 0) = L0 at *
  by_cases hl : i + 1 < n
  · simp only [hl, if_true]
    obtain ⟨fz, bz⟩ := hx (i + 1) hl
    have pu := bu.mul bz
    obtain ⟨d1, d2⟩ := fv_addmul (P := 11) (M := 188) (e := 30 / 1000000) c1 fu fz (pu.mono (by decide +kernel)) ⟨by have := pm.1; have := y1.1; have := y2.1; have := c2.1; have := pu.1; grind, by have := pm.2; have := y1.2; have := y2.2; have := c2.2; have := pu.2; grind⟩ (by decide +kernel) (by decide +kernel) (by decide +kernel)
    refine ⟨d1, ⟨by have := d2.1; have := c2.1; have := y1.1; grind, by have := d2.2; have := c2.2; have := y1.2; grind⟩, ((y2.add pm).add pu).mono (by decide +kernel)⟩
  · simp only [hl, if_false]
    refine ⟨c1, ⟨by have := c2.1; have := y1.1; grind, by have := c2.2; have := y1.2; grind⟩, ⟨by have := y2.1; have := pm.1; grind, by have := y2.2; have := pm.2; grind⟩⟩
theorem i_ThirdsTimes_loop {Lo Mi Up x : List F} {n : Nat} (l1 : Lo.length = n) (l2 : Mi.length = n) (l3 : Up.length = n) (lx : x.length = n) (n12 : n ≤ 12) : loopM (i_ThirdsTimes_s5 Lo Mi Up x) ([], 0) = some (.inl ((List.range n).map fun i => ttE Lo Mi Up x n i)) := by
  refine loop_go (step := i_ThirdsTimes_s5 Lo Mi Up x) (fun j : Nat => ((List.range j).map (fun i => ttE Lo Mi Up x n i), (j : Int))) n 0 (fun j _ hj => ?_) ?_
  · have hj : j < n := by omega
    show i_ThirdsTimes_b5 Lo Mi Up x _ (j : Int) = _
    have ap : apok 4 ((List.range j).map (fun i => ttE Lo Mi Up x n i)).length 1 = true := by simp [apok]; omega
    have k3 : ∀ y, i_ThirdsTimes_k3 Mi Up x ((List.range j).map (fun i => ttE Lo Mi Up x n i)) (j : Int) y = some (.next ((List.range j).map (fun i => ttE Lo Mi Up x n i) ++ [if j + 1 < n then fop .add .f32 (fop .add .f32 y (fop .mul .f32 (Mi.getD j none) (x.getD j none))) (fop .mul .f32 (Up.getD j none) (x.getD (j + 1) none)) else fop .add .f32 y (fop .mul .f32 (Mi.getD j none) (x.getD j none))], ((j + 1 : Nat) : Int))) := by
      intro y
      have a1 : at? Mi (j : Int) = some (Mi.getD j none) := at?_n none (by omega)
      have a2 : at? x (j : Int) = some (x.getD j none) := at?_n none (by omega)
      unfold i_ThirdsTimes_k3 i_ThirdsTimes_k4
      simp only [a1, a2, i_mul, olet_eq, obind_eq, wsucc (show j ≤ 1000000000 by omega), lx]
      by_cases hl : j + 1 < n
      · have a3 : at? Up (j : Int) = some (Up.getD j none) := at?_n none (by omega)
        have a4 : at? x ((j + 1 : Nat) : Int) = some (x.getD (j + 1) none) := at?_n none (by omega)
        rw [dlt hl, bsel_true, if_pos hl, a3, obind_eq, a4, obind_eq, ap, need_true]
      · rw [decide_eq_false (by omega), bsel_false, if_neg hl, ap, need_true]
    have e : (List.range (j + 1)).map (fun i => ttE Lo Mi Up x n i) = (List.range j).map (fun i => ttE Lo Mi Up x n i) ++ [ttE Lo Mi Up x n j] := by rw [List.range_succ, List.map_append]; rfl
    rw [e]
    unfold i_ThirdsTimes_b5
    rw [lx, dlt hj, bsel_true]
    by_cases h0 : 0 < j
    · have a1 : at? Lo (j : Int) = some (Lo.getD j none) := at?_n none (by omega)
      have w : IntKind.i64.wrap ((j : Int) - 1) = ((j - 1 : Nat) : Int) := by rw [wi64 (by omega) (by omega)]; omega
      have a2 : at? x ((j - 1 : Nat) : Int) = some (x.getD (j - 1) none) := at?_n none (by omega)
      rw [decide_eq_true (by omega), bsel_true]
      simp only [a1, w, a2, i_mul, olet_eq, obind_eq]
      rw [k3]
      unfold ttE
      simp only [h0, if_true]
    · rw [decide_eq_false (by omega), bsel_false, k3]
      unfold ttE
      simp only [h0, if_false]
  · show i_ThirdsTimes_b5 Lo Mi Up x _ ((0 + n : Nat) : Int) = _
    unfold i_ThirdsTimes_b5
    rw [lx, Nat.zero_add, dnlt, bsel_false]
theorem s_ThirdsTimes_loop {Lo Mi Up x : List F} {n : Nat} (l1 : Lo.length = n) (l2 : Mi.length = n) (l3 : Up.length = n) (lx : x.length = n) (n12 : n ≤ 12) : loopM (s_ThirdsTimes_s5 Lo Mi Up x) ([], 0) = some (.inl ((List.range n).map fun i => ttE Lo Mi Up x n i)) := by
  refine loop_go (step := s_ThirdsTimes_s5 Lo Mi Up x) (fun j : Nat => ((List.range j).map (fun i => ttE Lo Mi Up x n i), (j : Int))) n 0 (fun j _ hj => ?_) ?_
  · have hj : j < n := by omega
    show s_ThirdsTimes_b5 Lo Mi Up x _ (j : Int) = _
    have ap : apok 4 ((List.range j).map (fun i => ttE Lo Mi Up x n i)).length 1 = true := by simp [apok]; omega
    have k3 : ∀ y, s_ThirdsTimes_k3 Mi Up x ((List.range j).map (fun i => ttE Lo Mi Up x n i)) (j : Int) y = some (.next ((List.range j).map (fun i => ttE Lo Mi Up x n i) ++ [if j + 1 < n then fop .add .f32 (fop .add .f32 y (fop .mul .f32 (Mi.getD j none) (x.getD j none))) (fop .mul .f32 (Up.getD j none) (x.getD (j + 1) none)) else fop .add .f32 y (fop .mul .f32 (Mi.getD j none) (x.getD j none))], ((j + 1 : Nat) : Int))) := by
      intro y
      have a1 : at? Mi (j : Int) = some (Mi.getD j none) := at?_n none (by omega)
      have a2 : at? x (j : Int) = some (x.getD j none) := at?_n none (by omega)
      unfold s_ThirdsTimes_k3 s_ThirdsTimes_k4
      simp only [a1, a2, olet_eq, olet_eq, obind_eq, wsucc (show j ≤ 1000000000 by omega), lx]
      by_cases hl : j + 1 < n
      · have a3 : at? Up (j : Int) = some (Up.getD j none) := at?_n none (by omega)
        have a4 : at? x ((j + 1 : Nat) : Int) = some (x.getD (j + 1) none) := at?_n none (by omega)
        rw [dlt hl, bsel_true, if_pos hl, a3, obind_eq, a4, obind_eq, ap, need_true]
      · rw [decide_eq_false (by omega), bsel_false, if_neg hl, ap, need_true]
    have e : (List.range (j + 1)).map (fun i => ttE Lo Mi Up x n i) = (List.range j).map (fun i => ttE Lo Mi Up x n i) ++ [ttE Lo Mi Up x n j] := by rw [List.range_succ, List.map_append]; rfl
    rw [e]
    unfold s_ThirdsTimes_b5
    rw [lx, dlt hj, bsel_true]
    by_cases h0 : 0 < j
    · have a1 : at? Lo (j : Int) = some (Lo.getD j none) := at?_n none (by omega)
      have w : IntKind.i64.wrap ((j : Int) - 1) = ((j - 1 : Nat) : Int) := by rw [wi64 (by omega) (by omega)]; omega
      have a2 : at? x ((j - 1 : Nat) : Int) = some (x.getD (j - 1) none) := at?_n none (by omega)
      rw [decide_eq_true (by omega), bsel_true]
      simp only [a1, w, a2, olet_eq, olet_eq, obind_eq]
      rw [k3]
      unfold ttE
      simp only [h0, if_true]
    · rw [decide_eq_false (by omega), bsel_false, k3]
      unfold ttE
      simp only [h0, if_false]
  · show s_ThirdsTimes_b5 Lo Mi Up x _ ((0 + n : Nat) : Int) = _
    unfold s_ThirdsTimes_b5
    rw [lx, Nat.zero_add, dnlt, bsel_false]
theorem i_tt_ok {Lo Mi Up x : List F} {n : Nat} (h : Thr n Lo Mi Up) (lx : x.length = n) (hx : ∀ j, j < n → Fv (x.getD j none) ∧ Ab (vl (x.getD j none)) 11) : i_ThirdsTimes Lo Mi Up x = some (true, (List.range n).map fun i => ttE Lo Mi Up x n i) := by
  have n12 := h.n10
  unfold i_ThirdsTimes
  rw [h.takes lx (fun i hi => (hx i hi).1), obind_eq, bsel_true, i_ThirdsTimes_loop h.l1 h.l2 h.l3 lx n12, obind_eq, osum_inl]
  unfold i_ThirdsTimes_k5
  rw [allFinite_fv (by simp; omega) (fun y hy => by
    obtain ⟨i, hi, rfl⟩ := mem_mapR hy
    exact (tt_near h hi hx).1), obind_eq, osum_inl, obind2_eq, decide_eq_true rfl, need_true]
theorem s_tt_ok {Lo Mi Up x : List F} {n : Nat} (h : Thr n Lo Mi Up) (lx : x.length = n) (hx : ∀ j, j < n → Fv (x.getD j none) ∧ Ab (vl (x.getD j none)) 11) : s_ThirdsTimes Lo Mi Up x = some (true, (List.range n).map fun i => ttE Lo Mi Up x n i) := by
  have n12 := h.n10
  unfold s_ThirdsTimes
  rw [h.s_fits lx (fun i hi => (hx i hi).1), obind_eq, bsel_true, s_ThirdsTimes_loop h.l1 h.l2 h.l3 lx n12, obind_eq, osum_inl]
  unfold s_ThirdsTimes_k5 s_l02List_0o
  rw [s_fin_fv (n := n) (by simp) (by omega) (fun i hi => by rw [getD_mapR _ hi]; exact (tt_near h hi hx).1), obind_eq, bsel_true, obind_eq, osum_inl, obind2_eq, decide_eq_true rfl, need_true]
theorem b10List_refl {l : List F} (hl : l.length ≤ 1000) (h : ∀ i, i < l.length → Fv (l.getD i none)) : w_b10List l l = some true := by
  unfold w_b10List
  rw [decide_eq_true rfl, Bool.not_true, bsel_false]
  have e : loopM (w_b10List_s1 l l) 0 = some (.inl ()) := by
    refine loop_go (step := w_b10List_s1 l l) (fun j : Nat => (j : Int)) l.length 0 (fun j _ hj => ?_) ?_
    · have hj : j < l.length := by omega
      have f := h j hj
      have same : s_SameNumber (l.getD j none) (l.getD j none) = some true := by
        unfold s_SameNumber s_l01Same s_l01Bits
        rw [fv_eq f f, decide_eq_true rfl, Bool.not_true, bsel_false]
        obtain ⟨q, n, ⟨b, hb, _⟩, _⟩ := f
        rw [hb, obind_eq, olet_eq, obind_eq, obind_eq, obind_eq, decide_eq_true rfl]
      show w_b10List_b1 l l (j : Int) = _
      unfold w_b10List_b1
      rw [dlt hj, bsel_true, at?_n none hj, obind_eq, obind_eq, same, obind_eq, bsel_true, wsucc (by omega), olet_eq]
    · show w_b10List_b1 l l ((0 + l.length : Nat) : Int) = _
      unfold w_b10List_b1
      rw [Nat.zero_add, dnlt, bsel_false]
  rw [e, obind_eq, osum_inl]; rfl
theorem shared_ok {Lo Mi Up b y : List F} {w : Nat} (h : i_ThirdsSolve Lo Mi Up b = some (true, y)) (w1 : 1 ≤ w) (w8 : w ≤ 8) : i_ThirdsShared ([(Lo, Mi, Up), (Lo, Mi, Up)] : List (List F × List F × List F)) b (w : Int) = some (true, [y, y]) := by
  unfold i_ThirdsShared
  have e : loopM (i_ThirdsShared_s1 ([(Lo, Mi, Up), (Lo, Mi, Up)] : List (List F × List F × List F)) b) ([], 0) = some (.inl [y, y]) := by
    refine loop_go (step := i_ThirdsShared_s1 _ b) (fun j : Nat => (List.replicate j y, (j : Int))) 2 0 (fun j _ hj => ?_) ?_
    · show i_ThirdsShared_b1 _ b _ (j : Int) = _
      have hat : at? ([(Lo, Mi, Up), (Lo, Mi, Up)] : List (List F × List F × List F)) (j : Int) = some (Lo, Mi, Up) := by
        have : j = 0 ∨ j = 1 := by omega
        rcases this with rfl | rfl
        · exact at?_of (by omega) rfl
        · exact at?_of (by omega) rfl
      unfold i_ThirdsShared_b1
      rw [decide_eq_true (by simp; omega), bsel_true, hat, obind_eq, h, obind2_eq, bsel_true, show apok 24 (List.replicate j y).length 1 = true from by simp [apok]; omega, need_true, wsucc (by omega), olet_eq, ← List.replicate_succ']
    · show i_ThirdsShared_b1 _ b _ ((0 + 2 : Nat) : Int) = _
      unfold i_ThirdsShared_b1
      rw [decide_eq_false (by simp), bsel_false]
      rfl
  rw [decide_eq_false (by simp), bsel_false, i_inRange_eq, decide_eq_true (by omega), decide_eq_true (by omega), Bool.and_self, obind_eq, bsel_true, e, obind_eq, osum_inl]
  rfl
theorem thRow_lin {Lo Mi Up w x z : List F} {n i : Nat} {p e : Rat} (hi : i < n) (hlo : Ab (vl (Lo.getD i none)) 1) (hup : Ab (vl (Up.getD i none)) 1) (hmi : Ab (vl (Mi.getD i none)) 15) (hd : ∀ j, j < n → Ab (vl (w.getD j none) - (vl (x.getD j none) - p * vl (z.getD j none))) e) :
    Ab (thRow Lo Mi Up w n i - (thRow Lo Mi Up x n i - p * thRow Lo Mi Up z n i)) (17 * e) := by
  have e0 := (hd i hi).nonneg
  have a2 := hmi.mul (hd i hi)
  have a1 : Ab ((if 0 < i then vl (Lo.getD i none) * vl (w.getD (i - 1) none) else 0) - ((if 0 < i then vl (Lo.getD i none) * vl (x.getD (i - 1) none) else 0) - p * (if 0 < i then vl (Lo.getD i none) * vl (z.getD (i - 1) none) else 0))) e := by
    by_cases h : 0 < i
    · rw [if_pos h, if_pos h, if_pos h]
      have := hlo.mul (hd (i - 1) (by omega))
      exact ⟨by have := this.1; grind, by have := this.2; grind⟩
    · rw [if_neg h, if_neg h, if_neg h]; exact ⟨by grind, by grind⟩
  have a3 : Ab ((if i + 1 < n then vl (Up.getD i none) * vl (w.getD (i + 1) none) else 0) - ((if i + 1 < n then vl (Up.getD i none) * vl (x.getD (i + 1) none) else 0) - p * (if i + 1 < n then vl (Up.getD i none) * vl (z.getD (i + 1) none) else 0))) e := by
    by_cases h : i + 1 < n
    · rw [if_pos h, if_pos h, if_pos h]
      have := hup.mul (hd (i + 1) h)
      exact ⟨by have := this.1; grind, by have := this.2; grind⟩
    · rw [if_neg h, if_neg h, if_neg h]; exact ⟨by grind, by grind⟩
  unfold thRow
  have := (a1.add a2).add a3
  exact ⟨by have := this.1; grind, by have := this.2; grind⟩
theorem div_le_ab {a m lo c : Rat} {X : Rat} (h : Ab (m * a) X) (h0 : 0 < lo) (hm : lo ≤ m) (hc : X ≤ c * lo) (c0 : 0 ≤ c) : Ab a c := by
  have hm0 : 0 < m := by grind
  have l := Rat.mul_le_mul_of_nonneg_left hm c0
  exact ⟨Rat.le_of_mul_le_mul_right (c := m) (by have := h.1; grind) hm0, Rat.le_of_mul_le_mul_right (c := m) (by have := h.2; grind) hm0⟩
theorem z_mid {Lo Mi Up z : List F} {n i : Nat} {Z : Rat} (h : Thr n Lo Mi Up) (hi0 : 0 < i) (hi : i + 1 < n) (hm : 5 ≤ vl (Mi.getD i none)) (h1 : Ab (vl (z.getD (i - 1) none)) Z) (h2 : Ab (vl (z.getD (i + 1) none)) Z) (hr : Ab (thRow Lo Mi Up z n i) (3 / 100000)) : Ab (vl (z.getD i none)) ((2 * Z + 3 / 100000) / 5) := by
  have Z0 := h1.nonneg
  have a := (h.lo i (by omega)).2.mul h1
  have b := (h.up i (by omega)).2.mul h2
  unfold thRow at hr
  rw [if_pos hi0, if_pos hi] at hr
  refine div_le_ab (m := vl (Mi.getD i none)) (X := 2 * Z + 3 / 100000) (lo := 5) ⟨?_, ?_⟩ (by decide) hm (by grind) (by grind)
  · have := hr.1; have := a.2; have := b.2; grind
  · have := hr.2; have := a.1; have := b.1; grind
theorem z_last {Lo Mi Up z : List F} {n : Nat} {Z t : Rat} (h : Thr n Lo Mi Up) (ht : Ab t 1) (hm : 47 / 10 ≤ vl (Mi.getD (n - 1) none)) (h1 : Ab (vl (z.getD (n - 1 - 1) none)) Z) (hr : Ab (thRow Lo Mi Up z n (n - 1) - t) (3 / 100000)) : Ab (vl (z.getD (n - 1) none)) ((Z + 1 + 3 / 100000) / (47 / 10)) := by
  have Z0 := h1.nonneg
  have n3 := h.n3
  have a := (h.lo (n - 1) (by omega)).2.mul h1
  unfold thRow at hr
  rw [if_pos (by omega), if_neg (by omega)] at hr
  refine div_le_ab (m := vl (Mi.getD (n - 1) none)) (X := Z + 1 + 3 / 100000) (lo := 47 / 10) ⟨?_, ?_⟩ (by decide +kernel) hm (by grind) (by grind)
  · have := hr.1; have := a.2; have := ht.1; grind
  · have := hr.2; have := a.1; have := ht.2; grind
theorem z_first {Lo Mi Up z : List F} {n : Nat} {Z m : Rat} (h : Thr n Lo Mi Up) (h5 : 5 ≤ m) (hm : vl (Mi.getD 0 none) = 2 * m) (h1 : Ab (vl (z.getD 1 none)) Z) (hr : Ab (thRow Lo Mi Up z n 0 - -m) (3 / 100000)) : Ab (vl (z.getD 0 none) + 1 / 2) ((Z + 3 / 100000) / 10) := by
  have Z0 := h1.nonneg
  have n3 := h.n3
  have a := (h.up 0 (by omega)).2.mul h1
  unfold thRow at hr
  rw [if_neg (by omega), if_pos (by omega), hm] at hr
  have a : Ab (vl (Up.getD 0 none) * vl (z.getD (0 + 1) none)) (1 * Z) := a
  refine div_le_ab (m := 2 * m) (X := Z + 3 / 100000) (lo := 10) ⟨?_, ?_⟩ (by decide +kernel) (by grind) (by grind) (by grind)
  · have := hr.1; have := a.2; grind
  · have := hr.2; have := a.1; grind
theorem ends_alg {m g c x0 xn z0 zn a27 b34 x30 above below p w0 wn : Rat} (hg : g = -m) (m5 : 5 ≤ m) (m7 : m ≤ 7) (hc : Ab c 1)
    (h1 : Ab (a27 * g - c * xn) (1 / 1000000)) (h2 : Ab (above - (x0 + a27)) (3 / 10000000)) (h3 : Ab (b34 * g - c * zn) (6 / 10000000)) (h4 : Ab (x30 - (1 + z0)) (3 / 10000000)) (h5 : Ab (below - (x30 + b34)) (3 / 10000000))
    (h6 : Ab (p * below - above) (7 / 10000000)) (hp : Ab p 7) (d0 : Ab (w0 - (x0 - p * z0)) (3 / 1000000)) (dn : Ab (wn - (xn - p * zn)) (3 / 1000000)) : Ab (g * w0 + c * wn - p * g) (8 / 100000) := by
  subst hg
  have hm : Ab (-m) 7 := ⟨by grind, by grind⟩
  have k1 := hm.mul d0
  have k2 := hc.mul dn
  have k3 := hm.mul h2
  have k4 := hp.mul h3
  have k5 := (hp.mul hm).mul h4
  have k6 := (hp.mul hm).mul h5
  have k7 := hm.mul h6
  have key : -m * w0 + c * wn - p * -m = -m * (w0 - (x0 - p * z0)) + c * (wn - (xn - p * zn)) - (a27 * -m - c * xn) - -m * (above - (x0 + a27)) + p * (b34 * -m - c * zn) + p * -m * (x30 - (1 + z0)) + p * -m * (below - (x30 + b34)) - -m * (p * below - above) := by grind
  rw [key]
  exact (((((((k1.add k2).sub h1).sub k3).add k4).add k5).add k6).sub k7).mono (by decide +kernel)
theorem thRow_mi {Lo Mi M' Up x : List F} {n i : Nat} : thRow Lo Mi Up x n i = thRow Lo M' Up x n i + (vl (Mi.getD i none) - vl (M'.getD i none)) * vl (x.getD i none) := by unfold thRow; grind
theorem less_loop {p : F} {X Z : List F} {n : Nat} (lX : X.length = n) (lZ : Z.length = n) (n12 : n ≤ 12) : i_less_0o_2o1 p X Z = some ((List.range n).map fun i => fop .sub .f32 (X.getD i none) (fop .mul .f32 p (Z.getD i none)), Z) := by
  unfold i_less_0o_2o1
  have e := setLoop (step := i_less_0o_2o1_s1 p X Z) (g := fun i x => fop .sub .f32 x (fop .mul .f32 p (Z.getD i none))) lX (fun j M hj hM => by
    show i_less_0o_2o1_b1 p X Z M (j : Int) = _
    unfold i_less_0o_2o1_b1 i_mul
    rw [lX, dlt hj, bsel_true, at?_n none (by omega), obind_eq, at?_n none (by omega), obind_eq, olet_eq, obind_eq, olet_eq, setAt?_n _ (by omega), obind_eq, wsucc (by omega), olet_eq]) (fun M hM => by
    show i_less_0o_2o1_b1 p X Z M (n : Int) = _
    unfold i_less_0o_2o1_b1
    rw [lX, dnlt, bsel_false])
  rw [e, obind_eq, osum_inl]; rfl
theorem quo_g {z g : F} {X m : Rat} (hz : Fv z) (hg : Fv g) (hv : vl g = -m) (m5 : 5 ≤ m) (m7 : m ≤ 7) (hb : Ab (vl z) X) (hX : X ≤ 3) : Fv (fop .quo .f32 z g) ∧ Ab (vl (fop .quo .f32 z g) * vl g - vl z) (45 / 100000000 * X + 1 / 1000000000) ∧ Ab (vl (fop .quo .f32 z g)) (X / 5 + 1 / 1000000) := by
  have X0 := hb.nonneg
  have e1 : vl z / vl g * vl g = vl z := by rw [hv]; grind
  have q0 : Ab (vl z / vl g) (X / 5) := by
    have h : Ab (m * (vl z / vl g)) X := by
      rw [hv] at e1 ⊢
      rw [show m * (vl z / -m) = -(vl z / -m * -m) from by grind, e1]; exact hb.neg
    exact div_le_ab h (lo := 5) (by decide) m5 (by grind) (by grind)
  obtain ⟨f1, f2⟩ := fv_quo hz hg (by rw [hv]; grind) q0 (by grind)
  have em := f2.mul (show Ab (vl g) 7 from by rw [hv]; exact ⟨by grind, by grind⟩)
  rw [show (vl (fop .quo .f32 z g) - vl z / vl g) * vl g = vl (fop .quo .f32 z g) * vl g - vl z / vl g * vl g from by grind, e1] at em
  unfold e32 at em f2
  exact ⟨f1, em.mono (by grind), ⟨by have := f2.1; have := q0.1; grind, by have := f2.2; have := q0.2; grind⟩⟩
theorem ring_ok {Lo Mi Up b : List F} {n : Nat} {c o : F} (h : Thr n Lo Mi Up) (hq : ∀ i, i < n → ∃ q : Int, Dy .f32 2 q (Mi.getD i none) ∧ 20 ≤ q ∧ q ≤ 28) (hb : Rhs n b 4) (fc : Fv c) (bc : Ab (vl c) 1) (fo : Fv o) (bo : Ab (vl o) 1) :
    ∃ w, i_ThirdsRing Lo Mi Up c o b = some (true, w) ∧ w.length = n ∧ (∀ i, i < n → Fv (w.getD i none) ∧ Ab (vl (w.getD i none)) 11) ∧
      ∀ i, i < n → Ab (thRow Lo Mi Up w n i + (if i = 0 then vl c * vl (w.getD (n - 1) none) else 0) + (if i = n - 1 then vl o * vl (w.getD 0 none) else 0) - vl (b.getD i none)) (5 / 10000) := by
  have n3 := h.n3
  have n12 := h.n10
  have e4 : (2 : Rat) ^ 2 = 4 := by decide +kernel
  have m57 : ∀ i, i < n → 5 ≤ vl (Mi.getD i none) ∧ vl (Mi.getD i none) ≤ 7 := fun i hi => by
    obtain ⟨q, d, q1, q2⟩ := hq i hi
    rw [d.fv.2, e4]
    have l1 : ((20 : Int) : Rat) ≤ (q : Rat) := by exact_mod_cast q1
    have l2 : (q : Rat) ≤ ((28 : Int) : Rat) := by exact_mod_cast q2
    have c1 : ((20 : Int) : Rat) = 20 := by decide +kernel
    have c2 : ((28 : Int) : Rat) = 28 := by decide +kernel
    rw [c1] at l1
    rw [c2] at l2
    generalize (q : Rat) = x at *
    exact ⟨by grind, by grind⟩
  obtain ⟨m5, m7⟩ := m57 0 (by omega)
  obtain ⟨k5, k7⟩ := m57 (n - 1) (by omega)
  -- the corner
  obtain ⟨fg, vg⟩ := fv_neg (h.mi 0 (by omega)).1
  have d0 : Fv (fop .sub .f32 (Mi.getD 0 none) (fneg .f32 (Mi.getD 0 none))) ∧ vl (fop .sub .f32 (Mi.getD 0 none) (fneg .f32 (Mi.getD 0 none))) = 2 * vl (Mi.getD 0 none) := by
    obtain ⟨q, d, q1, q2⟩ := hq 0 (by omega)
    have hd : (2 : Nat) ^ dgn .f32 = 16777216 := by decide
    have s := d.sub (dy_flip d) (by omega)
    refine ⟨s.fv.1, ?_⟩
    rw [s.fv.2, d.fv.2, show q - -q = 2 * q from by omega, Rat.intCast_mul]
    have : ((2 : Int) : Rat) = 2 := by decide +kernel
    rw [this]; grind
  generalize hg : fneg .f32 (Mi.getD 0 none) = g at *
  generalize hd0 : fop .sub .f32 (Mi.getD 0 none) g = D0 at *
  obtain ⟨fp, p2⟩ := fv_mul fc fo (bc.mul bo) (by decide +kernel)
  have p2 := p2.mono (show e32 (1 * 1) ≤ 13 / 100000000 by decide +kernel)
  have co := bc.mul bo
  have pb : Ab (vl (fop .mul .f32 c o)) (1001 / 1000) := ⟨by have := p2.1; have := co.1; grind, by have := p2.2; have := co.2; grind⟩
  obtain ⟨fq, q2, q3⟩ := quo_g fp fg vg m5 m7 pb (by decide +kernel)
  generalize hqq : fop .quo .f32 (fop .mul .f32 c o) g = qq at *
  have qg : Ab (vl qq * vl g - vl c * vl o) (6 / 10000000) := (abTri q2 p2).mono (by decide +kernel)
  obtain ⟨fl, l2⟩ := fv_sub (h.mi (n - 1) (by omega)).1 fq (M := 8) ⟨by have := q3.2; grind, by have := q3.1; grind⟩ (by decide +kernel)
  have l2 := l2.mono (show e32 8 ≤ 1 / 1000000 by decide +kernel)
  generalize hdl : fop .sub .f32 (Mi.getD (n - 1) none) qq = Dl at *
  have la : ((Mi.set 0 D0).set (n - 1) Dl).length = n := by simp [h.l2]
  have ga : ∀ i, i < n → ((Mi.set 0 D0).set (n - 1) Dl).getD i none = if n - 1 = i then Dl else if 0 = i then D0 else Mi.getD i none := fun i hi => by
    rw [getD_setN (by simp [h.l2]; omega), getD_setN (by rw [h.l2]; omega)]
  have lastL9 : (Mi.set 0 D0).getD (n - 1) none = Mi.getD (n - 1) none := by rw [getD_setN (by rw [h.l2]; omega), if_neg (by omega)]
  have firstL9 : (Mi.set 0 D0).length = n := by simp [h.l2]
  generalize hM' : (Mi.set 0 D0).set (n - 1) Dl = M' at *
  have g0 : M'.getD 0 none = D0 := by rw [ga 0 (by omega), if_neg (by omega), if_pos rfl]
  have gl : M'.getD (n - 1) none = Dl := by rw [ga (n - 1) (by omega), if_pos rfl]
  have gmid : ∀ i, 0 < i → i + 1 < n → M'.getD i none = Mi.getD i none := fun i h1 h2 => by rw [ga i (by omega), if_neg (by omega), if_neg (by omega)]
  have h' : Thr n Lo M' Up := by
    refine ⟨n3, n12, h.l1, la, h.l3, h.lo, h.up, fun i hi => ?_, h.lo0, h.up0⟩
    by_cases i0 : i = 0
    · rw [i0, g0]; exact ⟨d0.1, by rw [d0.2]; grind, by rw [d0.2]; grind⟩
    · by_cases il : i = n - 1
      · rw [il, gl]; exact ⟨fl, by have := l2.1; have := q3.2; grind, by have := l2.2; have := q3.1; grind⟩
      · rw [gmid i (by omega) (by omega)]; exact h.mi i hi
  -- the ends
  have le : (((List.replicate n (some 0 : F)).set 0 g).set (n - 1) o).length = n := by simp
  have ge : ∀ i, i < n → (((List.replicate n (some 0 : F)).set 0 g).set (n - 1) o).getD i none = if n - 1 = i then o else if 0 = i then g else some 0 := fun i hi => by
    rw [getD_setN (by simp; omega), getD_setN (by simp; omega)]
    have : (List.replicate n (some 0 : F)).getD i none = some 0 := by simp [List.getD, List.getElem?_replicate, hi]
    rw [this]
  have le9 : ((List.replicate n (some 0 : F)).set 0 g).length = n := by simp
  generalize hE : ((List.replicate n (some 0 : F)).set 0 g).set (n - 1) o = E at *
  have e0 : E.getD 0 none = g := by rw [ge 0 (by omega), if_neg (by omega), if_pos rfl]
  have el : E.getD (n - 1) none = o := by rw [ge (n - 1) (by omega), if_pos rfl]
  have emid : ∀ i, 0 < i → i + 1 < n → E.getD i none = some 0 := fun i h1 h2 => by rw [ge i (by omega), if_neg (by omega), if_neg (by omega)]
  have hE' : Rhs n E 7 := by
    refine ⟨le, fun i hi => ?_, by decide +kernel, by decide +kernel⟩
    by_cases i0 : i = 0
    · rw [i0, e0]; exact ⟨fg, by rw [vg]; exact ⟨by grind, by grind⟩⟩
    · by_cases il : i = n - 1
      · rw [il, el]; exact ⟨fo, bo.mono (by decide)⟩
      · rw [emid i (by omega) (by omega)]; exact ⟨fv_zero.1, by rw [fv_zero.2]; exact ⟨by decide, by decide⟩⟩
  obtain ⟨X, eX, lX, hX⟩ := th_solve h' hb
  obtain ⟨Z, eZ, lZ, hZ⟩ := th_solve h' hE'
  have xb : ∀ i, i < n → Ab (vl (X.getD i none)) (165 / 100) := fun i hi => (hX i hi).2.1.mono (by decide +kernel)
  have zb0 : ∀ i, i < n → Ab (vl (Z.getD i none)) (289 / 100) := fun i hi => (hZ i hi).2.1.mono (by decide +kernel)
  have zr : ∀ i, 0 < i → i + 1 < n → Ab (thRow Lo M' Up Z n i) (3 / 100000) := fun i h1 h2 => by
    have := (hZ i (by omega)).2.2
    rw [emid i h1 h2, fv_zero.2] at this
    exact ⟨by have := this.1; grind, by have := this.2; grind⟩
  have zmid : ∀ i, 0 < i → i + 1 < n → Ab (vl (Z.getD i none)) (116 / 100) := fun i h1 h2 =>
    (z_mid h' h1 h2 (by rw [gmid i h1 h2]; exact (m57 i (by omega)).1) (zb0 _ (by omega)) (zb0 _ (by omega)) (zr i h1 h2)).mono (by decide +kernel)
  have zlast : Ab (vl (Z.getD (n - 1) none)) (83 / 100) := by
    have r := (hZ (n - 1) (by omega)).2.2
    rw [el] at r
    exact (z_last h' bo (h'.mi (n - 1) (by omega)).2.1 (zb0 _ (by omega)) r).mono (by decide +kernel)
  have zfst := (hZ 0 (by omega)).2.2
  rw [e0, vg] at zfst
  have z0a := z_first h' m5 (by rw [g0]; exact d0.2) (zmid 1 (by omega) (by omega)) zfst
  have z0b : Ab (vl (Z.getD 0 none)) (117 / 100) := ⟨by have := z0a.1; grind, by have := z0a.2; grind⟩
  have zall : ∀ i, i < n → Ab (vl (Z.getD i none)) (117 / 100) := fun i hi => by
    by_cases i0 : i = 0
    · rw [i0]; exact z0b
    · by_cases il : i = n - 1
      · rw [il]; exact zlast.mono (by decide +kernel)
      · exact (zmid i (by omega) (by omega)).mono (by decide +kernel)
  have z0c : Ab (vl (Z.getD 0 none)) (62 / 100) := ⟨by have := z0a.1; grind, by have := z0a.2; grind⟩
  have z1b : Ab (vl (Z.getD 1 none)) (36 / 100) := by
    have r := zr 1 (by omega) (by omega)
    have a := (h'.lo 1 (by omega)).2.mul z0c
    have b2 := (h'.up 1 (by omega)).2.mul (zall 2 (by omega))
    unfold thRow at r
    rw [if_pos (by decide), if_pos (by omega), gmid 1 (by omega) (by omega)] at r
    have a : Ab (vl (Lo.getD 1 none) * vl (Z.getD (1 - 1) none)) (1 * (62 / 100)) := a
    have b2 : Ab (vl (Up.getD 1 none) * vl (Z.getD (1 + 1) none)) (1 * (117 / 100)) := b2
    refine div_le_ab (m := vl (Mi.getD 1 none)) (X := 18 / 10) (lo := 5) ⟨?_, ?_⟩ (by decide) (m57 1 (by omega)).1 (by decide +kernel) (by decide +kernel)
    · have := r.1; have := a.2; have := b2.2; grind
    · have := r.2; have := a.1; have := b2.1; grind
  have z0d := z_first h' m5 (by rw [g0]; exact d0.2) z1b zfst
  -- above and below
  have f0 := (hX 0 (by omega)).1
  have fn := (hX (n - 1) (by omega)).1
  have x0b := xb 0 (by omega)
  have xnb := xb (n - 1) (by omega)
  obtain ⟨fa, a2⟩ := fv_mul fc fn (bc.mul xnb) (by decide +kernel)
  have a2 := a2.mono (show e32 (1 * (165 / 100)) ≤ 21 / 100000000 by decide +kernel)
  have cx := bc.mul xnb
  obtain ⟨ga1, ga2, ga3⟩ := quo_g fa fg vg m5 m7 (X := 1651 / 1000) ⟨by have := a2.1; have := cx.1; grind, by have := a2.2; have := cx.2; grind⟩ (by decide +kernel)
  generalize ha27 : fop .quo .f32 (fop .mul .f32 c (X.getD (n - 1) none)) g = a27 at *
  have H1 : Ab (vl a27 * vl g - vl c * vl (X.getD (n - 1) none)) (1 / 1000000) := (abTri ga2 a2).mono (by decide +kernel)
  obtain ⟨fab, ab2⟩ := fv_addh f0 ga1 (M := 2) ⟨by have := x0b.1; have := ga3.1; grind, by have := x0b.2; have := ga3.2; grind⟩ (by decide +kernel)
  have ab2 := ab2.mono (show h32 2 ≤ 13 / 100000000 by decide +kernel)
  generalize hab : fop .add .f32 (X.getD 0 none) a27 = above at *
  have abb : Ab (vl above) (199 / 100) := ⟨by have := ab2.1; have := x0b.1; have := ga3.1; grind, by have := ab2.2; have := x0b.2; have := ga3.2; grind⟩
  have fz0 := (hZ 0 (by omega)).1
  have fzn := (hZ (n - 1) (by omega)).1
  obtain ⟨fb', b2⟩ := fv_mul fc fzn (bc.mul zlast) (by decide +kernel)
  have b2 := b2.mono (show e32 (1 * (83 / 100)) ≤ 11 / 100000000 by decide +kernel)
  have cz := bc.mul zlast
  obtain ⟨gb1, gb2, gb3⟩ := quo_g fb' fg vg m5 m7 (X := 831 / 1000) ⟨by have := b2.1; have := cz.1; grind, by have := b2.2; have := cz.2; grind⟩ (by decide +kernel)
  generalize hb34 : fop .quo .f32 (fop .mul .f32 c (Z.getD (n - 1) none)) g = b34 at *
  have H3 : Ab (vl b34 * vl g - vl c * vl (Z.getD (n - 1) none)) (6 / 10000000) := (abTri gb2 b2).mono (by decide +kernel)
  obtain ⟨fx, x2⟩ := fv_addh one_f32.1 fz0 (M := 1) (by rw [one_f32.2]; exact ⟨by have := z0a.1; grind, by have := z0a.2; grind⟩) (by decide +kernel)
  rw [one_f32.2] at x2
  have x2 := x2.mono (show h32 1 ≤ 7 / 100000000 by decide +kernel)
  generalize hx30 : fop .add .f32 (some 1065353216) (Z.getD 0 none) = x30 at *
  obtain ⟨fbe, be2⟩ := fv_addh fx gb1 (M := 2) ⟨by have := z0d.1; have := x2.1; have := gb3.1; grind, by have := z0d.2; have := x2.2; have := gb3.2; grind⟩ (by decide +kernel)
  have be2 := be2.mono (show h32 2 ≤ 13 / 100000000 by decide +kernel)
  generalize hbe : fop .add .f32 x30 b34 = below at *
  have bel : 29 / 100 ≤ vl below := by have := be2.1; have := x2.1; have := z0d.1; have := gb3.1; grind
  have beu : vl below ≤ 71 / 100 := by have := be2.2; have := x2.2; have := z0d.2; have := gb3.2; grind
  have q0 : Ab (vl above / vl below) (687 / 100) := div_ab abb (lo := 29 / 100) (by decide +kernel) bel (by decide +kernel) (by decide +kernel)
  obtain ⟨fphi, ph2⟩ := fv_quo fab fbe (by grind) q0 (by decide +kernel)
  have ph2 := ph2.mono (show e32 (687 / 100) ≤ 9 / 10000000 by decide +kernel)
  have e1 : vl above / vl below * vl below = vl above := div_mul_pos (by grind)
  have em := ph2.mul (show Ab (vl below) (71 / 100) from ⟨by grind, beu⟩)
  rw [show (vl (fop .quo .f32 above below) - vl above / vl below) * vl below = vl (fop .quo .f32 above below) * vl below - vl above / vl below * vl below from by grind, e1] at em
  have em := em.mono (show (9 : Rat) / 10000000 * (71 / 100) ≤ 7 / 10000000 by decide +kernel)
  generalize hphi : fop .quo .f32 above below = phi at *
  have phb : Ab (vl phi) (688 / 100) := ⟨by have := ph2.1; have := q0.1; grind, by have := ph2.2; have := q0.2; grind⟩
  -- the result
  have nw : ∀ i, i < n → Fv (fop .sub .f32 (X.getD i none) (fop .mul .f32 phi (Z.getD i none))) ∧ Ab (vl (fop .sub .f32 (X.getD i none) (fop .mul .f32 phi (Z.getD i none))) - (vl (X.getD i none) - vl phi * vl (Z.getD i none))) (3 / 1000000) ∧ Ab (vl (fop .sub .f32 (X.getD i none) (fop .mul .f32 phi (Z.getD i none)))) 11 := by
    intro i hi
    have p := phb.mul (zall i hi)
    have s := (xb i hi).sub p
    obtain ⟨s1, s2⟩ := fv_submul (P := 81 / 10) (M := 98 / 10) (e := 3 / 1000000) (hX i hi).1 fphi (hZ i hi).1 (p.mono (by decide +kernel)) (s.mono (by decide +kernel)) (by decide +kernel) (by decide +kernel) (by decide +kernel)
    exact ⟨s1, s2, ⟨by have := s2.1; have := s.1; grind, by have := s2.2; have := s.2; grind⟩⟩
  have lW : ((List.range n).map fun i => fop .sub .f32 (X.getD i none) (fop .mul .f32 phi (Z.getD i none))).length = n := by simp
  have gW : ∀ i, i < n → ((List.range n).map fun i => fop .sub .f32 (X.getD i none) (fop .mul .f32 phi (Z.getD i none))).getD i none = fop .sub .f32 (X.getD i none) (fop .mul .f32 phi (Z.getD i none)) := fun i hi => getD_mapR _ hi
  have eL := less_loop (p := phi) lX lZ n12
  generalize hW : ((List.range n).map fun i => fop .sub .f32 (X.getD i none) (fop .mul .f32 phi (Z.getD i none))) = W at *
  have wd : ∀ j, j < n → Ab (vl (W.getD j none) - (vl (X.getD j none) - vl phi * vl (Z.getD j none))) (3 / 1000000) := fun j hj => by rw [gW j hj]; exact (nw j hj).2.1
  have wb : ∀ i, i < n → Fv (W.getD i none) ∧ Ab (vl (W.getD i none)) 11 := fun i hi => by rw [gW i hi]; exact ⟨(nw i hi).1, (nw i hi).2.2⟩
  refine ⟨W, ?_, lW, wb, fun i hi => ?_⟩
  · unfold i_ThirdsRing x_slices_Clone_float32_float32 i_mul
    have a0 : at? Mi 0 = some (Mi.getD 0 none) := at?_n (i := 0) none (by rw [h.l2]; omega)
    have sa0 : setAt? Mi 0 D0 = some (Mi.set 0 D0) := setAt?_n (i := 0) _ (by rw [h.l2]; omega)
    have wn1 : IntKind.i64.wrap ((n : Int) - 1) = ((n - 1 : Nat) : Int) := by rw [wi64 (by omega) (by omega)]; omega
    have al9 : at? (Mi.set 0 D0) ((n - 1 : Nat) : Int) = some (Mi.getD (n - 1) none) := by rw [at?_n none (by omega), lastL9]
    have sl9 : setAt? (Mi.set 0 D0) ((n - 1 : Nat) : Int) Dl = some M' := by rw [setAt?_n _ (by omega), hM']
    have se0 : setAt? (List.replicate n (some 0 : F)) 0 g = some ((List.replicate n (some 0 : F)).set 0 g) := setAt?_n (i := 0) _ (by simp; omega)
    have se1 : setAt? ((List.replicate n (some 0 : F)).set 0 g) ((n - 1 : Nat) : Int) o = some E := by rw [setAt?_n _ (by omega), hE]
    have x0 : at? X 0 = some (X.getD 0 none) := at?_n (i := 0) none (by omega)
    have xn : at? X ((n - 1 : Nat) : Int) = some (X.getD (n - 1) none) := at?_n none (by omega)
    have z0 : at? Z 0 = some (Z.getD 0 none) := at?_n (i := 0) none (by omega)
    have zn : at? Z ((n - 1 : Nat) : Int) = some (Z.getD (n - 1) none) := at?_n none (by omega)
    have mk : mkok 4 (n : Int) = true := by simp only [mkok, Bool.and_eq_true, decide_eq_true_eq]; omega
    have fin2 : i_areFinite ([c, o] : List F) = some true := areFin_fv (n := 2) rfl (by decide) (fun i hi => by
      have : i = 0 ∨ i = 1 := by omega
      rcases this with rfl | rfl
      · exact fc
      · exact fo)
    rw [h.takes hb.len (fun i hi => (hb.fv i hi).1), obind_eq, bsel_true, h.l2, decide_eq_false (by omega), bsel_false, fin2, obind_eq, bsel_true, a0, obind_eq, fv_eq (h.mi 0 (by omega)).1 fv_zero.1, fv_zero.2, decide_eq_false (by grind), bsel_false, obind_eq, hg, olet_eq, show apok 4 0 n = true from by simp [apok]; omega, need_true, obind_eq, List.nil_append, a0, obind_eq, hd0, olet_eq, sa0, obind_eq, wn1, olet_eq, al9, obind_eq, olet_eq, obind_eq, hqq, olet_eq, hdl, olet_eq, sl9, obind_eq, mk, need_true, olet_eq, Int.toNat_natCast, se0, obind_eq, se1, obind_eq, eX, obind2_eq, bsel_true, eZ, obind2_eq, bsel_true, x0, obind_eq, olet_eq, xn, obind_eq, olet_eq, obind_eq, ha27, olet_eq, hab, olet_eq, z0, obind_eq, hx30, olet_eq, olet_eq, zn, obind_eq, olet_eq, obind_eq, hb34, olet_eq, hbe, olet_eq, hphi, olet_eq, eL, obind2_eq, decide_eq_true (by rw [lW, lX]), need_true, decide_eq_true rfl, need_true, allFinite_fv (by omega) (all_of_getD lW fun i hi => (wb i hi).1), obind_eq, osum_inl, obind2_eq, decide_eq_true (by rw [lW, lX]), need_true]
  · have T := thRow_lin (p := vl phi) hi (h'.lo i hi).2 (h'.up i hi).2 ⟨by have := (h'.mi i hi).2.1; grind, (h'.mi i hi).2.2⟩ wd
    have rx := (hX i hi).2.2
    have rz := phb.mul (hZ i hi).2.2
    have ends := ends_alg (m := vl (Mi.getD 0 none)) (c := vl c) vg m5 m7 bc (h1 := H1.mono Rat.le_refl) (h2 := ab2.mono (by decide +kernel)) (h3 := H3) (h4 := x2.mono (by decide +kernel)) (h5 := be2.mono (by decide +kernel)) em (phb.mono (by decide +kernel)) (wd 0 (by omega)) (wd (n - 1) (by omega))
    rw [thRow_mi (M' := M')]
    by_cases i0 : i = 0
    · subst i0
      rw [if_pos rfl, if_neg (by omega), g0, d0.2]
      rw [e0] at rz
      generalize thRow Lo M' Up W n 0 = t1 at *
      generalize thRow Lo M' Up X n 0 = t2 at *
      generalize thRow Lo M' Up Z n 0 = t3 at *
      rw [vg] at ends rz
      exact ⟨by have := T.1; have := rx.1; have := rz.2; have := ends.1; grind, by have := T.2; have := rx.2; have := rz.1; have := ends.2; grind⟩
    · by_cases il : i = n - 1
      · subst il
        rw [if_neg (by omega), if_pos rfl, gl]
        rw [el] at rz
        have wn := (wb (n - 1) (by omega)).2
        have l3 := l2.mul wn
        -- the corner of the last row
        have k1 := bo.mul ends
        have k2 := qg.mul wn
        have key : Ab (vl (Mi.getD 0 none) * (vl qq * vl (W.getD (n - 1) none) + vl o * vl (W.getD 0 none) - vl phi * vl o)) (1 / 10000) := by
          rw [vg] at k1 k2
          exact ⟨by have := k1.2; have := k2.2; grind, by have := k1.1; have := k2.1; grind⟩
        have key := div_le_ab key (lo := 5) (c := 2 / 100000) (by decide) m5 (by decide +kernel) (by decide +kernel)
        generalize thRow Lo M' Up W n (n - 1) = t1 at *
        generalize thRow Lo M' Up X n (n - 1) = t2 at *
        generalize thRow Lo M' Up Z n (n - 1) = t3 at *
        exact ⟨by have := T.1; have := rx.1; have := rz.2; have := key.1; have := l3.2; grind, by have := T.2; have := rx.2; have := rz.1; have := key.2; have := l3.1; grind⟩
      · rw [if_neg i0, if_neg il, gmid i (by omega) (by omega)]
        rw [emid i (by omega) (by omega), fv_zero.2] at rz
        generalize thRow Lo M' Up W n i = t1 at *
        generalize thRow Lo M' Up X n i = t2 at *
        generalize thRow Lo M' Up Z n i = t3 at *
        exact ⟨by have := T.1; have := rx.1; have := rz.2; grind, by have := T.2; have := rx.2; have := rz.1; grind⟩
theorem quarter_one {a : Int} {x : F} (h : Dy .f32 2 a x) (ha : a.natAbs ≤ 4) : Fv x ∧ Ab (vl x) 1 := by
  have e4 : (2 : Rat) ^ 2 = ((4 : Nat) : Rat) := by decide +kernel
  refine ⟨h.fv.1, ?_⟩
  rw [h.fv.2, e4]
  exact ab_div (e := 4) (by decide) ha (by decide +kernel)
theorem shf_loop {a0 : List Int} (b0 : Byt a0) {n : Nat} (hn : n ≤ 8) : ∀ (m k : Nat) (L : List F), k + m = n → 0 < k → L.length = k → L.getD 0 none = some 1090519040 → (∀ i, 0 < i → i < k → Fv (L.getD i none) ∧ Ab (vl (L.getD i none)) 1) →
    ∃ L', loopM (w_FnShiftRows_s1 a0 (n : Int)) (L, (k : Int)) = some (.inl L') ∧ Shf L' n
  | 0, k, L, hk, k0, hl, h0, hf => by
    have hk : k = n := by omega
    subst hk
    refine ⟨L, loopM_out ?_, hl, k0, hn, fun i hi => ?_, h0, fun i h1 h2 => (hf i h1 h2).2⟩
    · show w_FnShiftRows_b1 a0 (k : Int) L (k : Int) = _
      unfold w_FnShiftRows_b1
      rw [dnlt, bsel_false]
    · by_cases i0 : i = 0
      · rw [i0, h0]; exact eight_fv.1
      · exact (hf i (by omega) hi).1
  | m + 1, k, L, hk, k0, hl, h0, hf => by
    obtain ⟨p, hp, ep⟩ := b10at b0 (k := k) (n := 9) (by decide) (by omega)
    have ep : w_b10At a0 (k : Int) 9 = _ := ep
    have d := quarter_one (quarter_dy (n := (p : Int) - 4) (by omega)) (by omega)
    obtain ⟨L', e, s⟩ := shf_loop b0 hn m (k + 1) (L ++ [fop .quo .f32 (fint .f32 ((p : Int) - 4)) (some 1082130432)]) (by omega) (by omega) (by simp [hl]) (by rw [getD_snocC hl (by omega), if_neg (by omega)]; exact h0) (fun i h1 h2 => by
      rw [getD_snocC hl h2]
      by_cases e : i = k
      · rw [if_pos e]; exact d
      · rw [if_neg e]; exact hf i h1 (by omega))
    refine ⟨L', ?_, s⟩
    rw [loopM_next (s' := (L ++ [fop .quo .f32 (fint .f32 ((p : Int) - 4)) (some 1082130432)], ((k + 1 : Nat) : Int))), e]
    show w_FnShiftRows_b1 a0 (n : Int) L (k : Int) = _
    unfold w_FnShiftRows_b1
    rw [dlt (by omega), bsel_true, ep, obind_eq, wi64 (by omega) (by omega), olet_eq, olet_eq, olet_eq, show apok 4 L.length 1 = true from by simp [apok]; omega, need_true, wsucc (by omega), olet_eq]
structure ThD (n k : Nat) (Lo Mi Up : List F) : Prop where
  l1 : Lo.length = k
  l2 : Mi.length = k
  l3 : Up.length = k
  lo : ∀ i, i < k → ∃ a : Int, Dy .f32 2 a (Lo.getD i none) ∧ a.natAbs ≤ 4 ∧ (i = 0 → a = 0)
  mi : ∀ i, i < k → ∃ q : Int, Dy .f32 2 q (Mi.getD i none) ∧ 20 ≤ q ∧ q ≤ 28
  up : ∀ i, i < k → ∃ a : Int, Dy .f32 2 a (Up.getD i none) ∧ a.natAbs ≤ 4 ∧ (i = n - 1 → a = 0)
theorem ThD.app {n k : Nat} {Lo Mi Up : List F} (h : ThD n k Lo Mi Up) {x y z : F} (hx : ∃ a : Int, Dy .f32 2 a x ∧ a.natAbs ≤ 4 ∧ (k = 0 → a = 0)) (hy : ∃ q : Int, Dy .f32 2 q y ∧ 20 ≤ q ∧ q ≤ 28) (hz : ∃ a : Int, Dy .f32 2 a z ∧ a.natAbs ≤ 4 ∧ (k = n - 1 → a = 0)) : ThD n (k + 1) (Lo ++ [x]) (Mi ++ [y]) (Up ++ [z]) := by
  refine ⟨by simp [h.l1], by simp [h.l2], by simp [h.l3], fun i hi => ?_, fun i hi => ?_, fun i hi => ?_⟩
  · rw [getD_snocC h.l1 hi]
    by_cases e : i = k
    · rw [if_pos e]; subst e; exact hx
    · rw [if_neg e]; exact h.lo i (by omega)
  · rw [getD_snocC h.l2 hi]
    by_cases e : i = k
    · rw [if_pos e]; exact hy
    · rw [if_neg e]; exact h.mi i (by omega)
  · rw [getD_snocC h.l3 hi]
    by_cases e : i = k
    · rw [if_pos e]; subst e; exact hz
    · rw [if_neg e]; exact h.up i (by omega)
theorem thd_loop {a : List Int} (ha : Byt a) {n : Nat} (n12 : n ≤ 12) : ∀ (m k t : Nat) (s : Int) (Lo Mi Up : List F), k + m = n → t ≤ 3 * k → ThD n k Lo Mi Up →
    ∃ Lo' Mi' Up', loopM (s_B10Thirds_s5 (n : Int) a) (Lo, Mi, Up, (t : Int), s, (k : Int)) = some (.inl (Lo', Mi', Up')) ∧ ThD n n Lo' Mi' Up'
  | 0, k, t, s, Lo, Mi, Up, hk, ht, h => by
    have hk : k = n := by omega
    subst hk
    refine ⟨Lo, Mi, Up, loopM_out ?_, h⟩
    show s_B10Thirds_b5 (k : Int) a Lo Mi Up (t : Int) s (k : Int) = _
    unfold s_B10Thirds_b5
    rw [dnlt, bsel_false]
  | m + 1, k, t, s, Lo, Mi, Up, hk, ht, h => by
    obtain ⟨v1, t1, s1, h1, g1, e1⟩ := src_pick ha (n := 9) (t := t) (by decide) (by decide) (by omega) s
    obtain ⟨v2, t2, s2, h2, g2, e2⟩ := src_pick ha (n := 9) (t := t1) (by decide) (by decide) (by omega) s1
    obtain ⟨v3, t3, s3, h3, g3, e3⟩ := src_pick ha (n := 9) (t := t2) (by decide) (by decide) (by omega) s2
    have e1 : s_l00Src_pick_0p0_C0 9 a (t : Int) s = _ := e1
    have e2 : s_l00Src_pick_0p0_C0 9 a (t1 : Int) s1 = _ := e2
    have e3 : s_l00Src_pick_0p0_C0 9 a (t2 : Int) s2 = _ := e3
    have d1 := quarter_dy (n := (v1 : Int) - 4) (by omega)
    have d2 := quarter_dy (n := (v2 : Int) - 4) (by omega)
    have d3 := quarter_dy (n := 20 + (v3 : Int)) (by omega)
    have l1 := h.l1
    have l2 := h.l2
    have l3 := h.l3
    have z0 : Dy .f32 2 0 (some 0) := Dy.zero .f32 (by decide)
    have k4 : ∀ x z : F, (∃ a : Int, Dy .f32 2 a x ∧ a.natAbs ≤ 4 ∧ (k = 0 → a = 0)) → (∃ a : Int, Dy .f32 2 a z ∧ a.natAbs ≤ 4 ∧ (k = n - 1 → a = 0)) → ∃ Lo' Mi' Up', ThD n (k + 1) Lo' Mi' Up' ∧ s_B10Thirds_k4 a Lo Mi Up (k : Int) (t2 : Int) s2 x z = some (.next (Lo', Mi', Up', (t3 : Int), s3, ((k + 1 : Nat) : Int))) := fun x z hx hz => by
      refine ⟨_, _, _, h.app hx ⟨_, d3, by omega, by omega⟩ hz, ?_⟩
      unfold s_B10Thirds_k4
      rw [show apok 4 Lo.length 1 = true from by simp [apok]; omega, need_true, show apok 4 Up.length 1 = true from by simp [apok]; omega, need_true, e3, obind3_eq, wi64 (by omega) (by omega), olet_eq, olet_eq, olet_eq, show apok 4 Mi.length 1 = true from by simp [apok]; omega, need_true, wsucc (by omega), olet_eq]
    have k3 : ∀ x : F, (∃ a : Int, Dy .f32 2 a x ∧ a.natAbs ≤ 4 ∧ (k = 0 → a = 0)) → ∃ Lo' Mi' Up', ThD n (k + 1) Lo' Mi' Up' ∧ s_B10Thirds_k3 (n : Int) a Lo Mi Up (k : Int) (t2 : Int) s2 (fop .quo .f32 (fint .f32 ((v2 : Int) - 4)) (some 1082130432)) x = some (.next (Lo', Mi', Up', (t3 : Int), s3, ((k + 1 : Nat) : Int))) := fun x hx => by
      unfold s_B10Thirds_k3
      rw [wi64 (by omega) (by omega), olet_eq]
      by_cases e : k = n - 1
      · rw [decide_eq_true (by omega), bsel_true]; exact k4 x _ hx ⟨0, z0, by decide, fun _ => rfl⟩
      · rw [decide_eq_false (by omega), bsel_false]; exact k4 x _ hx ⟨_, d2, by omega, fun h => absurd h e⟩
    have body : ∃ Lo' Mi' Up', ThD n (k + 1) Lo' Mi' Up' ∧ s_B10Thirds_s5 (n : Int) a (Lo, Mi, Up, (t : Int), s, (k : Int)) = some (.next (Lo', Mi', Up', (t3 : Int), s3, ((k + 1 : Nat) : Int))) := by
      show ∃ Lo' Mi' Up', ThD n (k + 1) Lo' Mi' Up' ∧ s_B10Thirds_b5 (n : Int) a Lo Mi Up (t : Int) s (k : Int) = _
      unfold s_B10Thirds_b5
      rw [dlt (by omega), bsel_true, e1, obind3_eq, wi64 (by omega) (by omega), olet_eq, olet_eq, olet_eq, e2, obind3_eq, wi64 (by omega) (by omega), olet_eq, olet_eq, olet_eq]
      by_cases e : k = 0
      · rw [decide_eq_true (by omega), bsel_true]; exact k3 _ ⟨0, z0, by decide, fun _ => rfl⟩
      · rw [decide_eq_false (by omega), bsel_false]; exact k3 _ ⟨_, d1, by omega, fun h => absurd h e⟩
    obtain ⟨Lo1, Mi1, Up1, b1, b2⟩ := body
    obtain ⟨Lo', Mi', Up', c1, c2⟩ := thd_loop ha n12 m (k + 1) t3 s3 Lo1 Mi1 Up1 (by omega) (by omega) b1
    exact ⟨Lo', Mi', Up', by rw [loopM_next b2, c1], c2⟩
theorem thd_ok {a : List Int} (ha : Byt a) {n : Nat} (n3 : 3 ≤ n) (n12 : n ≤ 12) : ∃ Lo Mi Up, s_B10Thirds a (n : Int) = some (Lo, Mi, Up) ∧ Thr n Lo Mi Up ∧ ∀ i, i < n → ∃ q : Int, Dy .f32 2 q (Mi.getD i none) ∧ 20 ≤ q ∧ q ≤ 28 := by
  obtain ⟨Lo, Mi, Up, e, h⟩ := thd_loop ha n12 n 0 0 0 [] [] [] (by omega) (by omega) ⟨rfl, rfl, rfl, fun i hi => by omega, fun i hi => by omega, fun i hi => by omega⟩
  have e : loopM (s_B10Thirds_s5 (n : Int) a) ([], [], [], 0, 0, 0) = _ := e
  have e4 : (2 : Rat) ^ 2 = 4 := by decide +kernel
  refine ⟨Lo, Mi, Up, ?_, ⟨n3, n12, h.l1, h.l2, h.l3, fun i hi => ?_, fun i hi => ?_, fun i hi => ?_, ?_, ?_⟩, h.mi⟩
  · unfold s_B10Thirds s_l00From
    rw [obind3_eq, e, obind_eq, osum_inl]; rfl
  · obtain ⟨a, d, b, _⟩ := h.lo i hi; exact quarter_one d b
  · obtain ⟨a, d, b, _⟩ := h.up i hi; exact quarter_one d b
  · obtain ⟨q, d, q1, q2⟩ := h.mi i hi
    refine ⟨d.fv.1, ?_⟩
    rw [d.fv.2, e4]
    have l1 : ((20 : Int) : Rat) ≤ (q : Rat) := by exact_mod_cast q1
    have l2 : (q : Rat) ≤ ((28 : Int) : Rat) := by exact_mod_cast q2
    have c1 : ((20 : Int) : Rat) = 20 := by decide +kernel
    have c2 : ((28 : Int) : Rat) = 28 := by decide +kernel
    rw [c1] at l1
    rw [c2] at l2
    generalize (q : Rat) = x at *
    exact ⟨by grind, by grind⟩
  · obtain ⟨a, d, _, z⟩ := h.lo 0 (by omega)
    rw [z rfl] at d; rw [d.fv.2]; simp; grind
  · obtain ⟨a, d, _, z⟩ := h.up (n - 1) (by omega)
    rw [z rfl] at d; rw [d.fv.2]; simp; grind
theorem qv4 {L : List F} {n : Nat} (hl : L.length = n) (h : ∀ x ∈ L, Qd x) : ∀ i, i < n → Fv (L.getD i none) ∧ Ab (vl (L.getD i none)) 4 := fun i hi => qd_fv (h _ (List.mem_of_getElem? (getD_of_lt none (by rw [hl]; exact hi))))
theorem w_FnShiftRows_true (a0 a1 : List Int) (t0 : Small a0) (t1 : Small a1) (g0 : ∀ z ∈ a0, (Lit.int .u8 z).wf = true) (g1 : ∀ z ∈ a1, (Lit.int .u8 z).wf = true) : w_FnShiftRows a0 a1 = some true := by
  have b0 := byt_of g0
  have b1 := byt_of g1
  unfold w_FnShiftRows
  obtain ⟨r, hr⟩ := b10long (a := a0) (b := a1)
  rw [hr, obind_eq]
  cases r with
  | true => rw [bsel_true]
  | false =>
    obtain ⟨v, hv, ev⟩ := b10at b1 (k := 0) (n := 8) (by decide) (by decide)
    have ev : w_b10At a1 0 8 = _ := ev
    rw [bsel_false, ev, obind_eq, wi64 (by omega) (by omega), olet_eq, show 1 + (v : Int) = ((1 + v : Nat) : Int) from by omega]
    have n0 : 0 < 1 + v := by omega
    have n8 : 1 + v ≤ 8 := by omega
    generalize 1 + v = n at *
    obtain ⟨l, el, hs⟩ := shf_loop b0 n8 (n - 1) 1 [some 1090519040] (by omega) (by decide) rfl rfl (fun i h1 h2 => by omega)
    have el : loopM (w_FnShiftRows_s1 a0 (n : Int)) ([some 1090519040], 1) = _ := el
    rw [el, obind_eq, osum_inl]
    unfold w_FnShiftRows_k1
    obtain ⟨b, lb, hb, eb⟩ := b10vector b1 (n := n) (by omega)
    have hb := qv4 lb hb
    obtain ⟨X, eX, hX⟩ := shiftSolve_ok hs hb lb
    obtain ⟨e, A, R, eR, lA, lR, fe, e0, e8, hR⟩ := refl_ok hs
    have wn1 : IntKind.i64.wrap ((n : Int) - 1) = ((n - 1 : Nat) : Int) := by rw [wi64 (by omega) (by omega)]; omega
    rw [eb, obind_eq, eX, obind2_eq, shiftTimes_ok hs hX, obind2_eq, shiftMatrix_ok hs, obind4_eq, eR, obind4_eq, bsel_true, bsel_true, bsel_true, bsel_true,
      far_no (by simp [lb]) (by simp; omega) (fun i hi => by
        have hi : i < n := by simpa using hi
        rw [getD_mapR _ hi]
        exact ⟨(shift_dot hs hX hi).1, (hb i hi).1, (shift_dot hs hX hi).2⟩), obind_eq, bsel_false, wn1, olet_eq, lA, decide_eq_true rfl, Bool.not_true, bsel_false, olet_eq, lR, decide_eq_true rfl, Bool.not_true, bsel_false,
      fv_le fe fv_zero.1, fv_zero.2, decide_eq_false (by grind), bsel_false, fv_lt eight_fv.1 fe, eight_fv.2, decide_eq_false (by grind), bsel_false]
    unfold w_FnShiftRows_k5
    have tm : Mat n n (tabM n n (shK l)) := tabM_mat (by omega) (by omega)
    rw [s_TimesVector_fv tm n0 n0 (fun y hy => by
      obtain ⟨i, k, hi, hk, rfl⟩ := mem_gm tm hy
      rw [tabM_gm (by omega) (by omega) hi hk]
      exact hs.fv _ (dst_lt hi hk)) hX.len hX.all (fun i hi => (shift_dot hs hX hi).1), obind2_eq, bsel_true,
      far_no (by simp [lb]) (by simp; omega) (fun i hi => by
        have hi : i < n := by simpa using hi
        rw [getD_mapR _ hi]
        exact ⟨(shift_dot hs hX hi).1, (hb i hi).1, (shift_dot hs hX hi).2⟩), obind_eq, bsel_false]
    unfold w_FnShiftRows_k9
    have er : loopM (w_FnShiftRows_s10 R) 0 = some (.inl ()) := by
      refine loop_go (step := w_FnShiftRows_s10 R) (fun j : Nat => (j : Int)) R.length 0 (fun j _ hj => ?_) ?_
      · have hj : j < R.length := by omega
        obtain ⟨f, c⟩ := hR (R.getD j none) (List.mem_of_getElem? (getD_of_lt none hj))
        have m1 : Fv (some 3212836864) ∧ vl (some 3212836864) = -1 := by
          have d : Dy .f32 0 (-1) (some 3212836864) := ⟨3212836864, rfl, by decide, by decide, by decide, by decide +kernel⟩
          have := d.fv
          exact ⟨this.1, by rw [this.2]; decide +kernel⟩
        show w_FnShiftRows_b10 R (j : Int) = _
        unfold w_FnShiftRows_b10
        rw [dlt hj, bsel_true, at?_n none hj, obind_eq, fv_le one_f32.1 f, one_f32.2, decide_eq_false (by have := c.2; grind), bsel_false, obind_eq, fv_le f m1.1, m1.2, decide_eq_false (by have := c.1; grind), bsel_false, wsucc (by omega), olet_eq]
      · show w_FnShiftRows_b10 R ((0 + R.length : Nat) : Int) = _
        unfold w_FnShiftRows_b10
        rw [Nat.zero_add, dnlt, bsel_false]
    rw [er, obind_eq, osum_inl]
    unfold w_FnShiftRows_k10
    obtain ⟨p1, h1, e1⟩ := b10at b1 (k := 1) (n := 8) (by decide) (by decide)
    obtain ⟨p2, h2, e2⟩ := b10at b1 (k := 2) (n := 9) (by decide) (by decide)
    obtain ⟨p3, h3, e3⟩ := b10at b1 (k := 3) (n := 9) (by decide) (by decide)
    obtain ⟨p4, h4, e4⟩ := b10at b1 (k := 4) (n := 8) (by decide) (by decide)
    have e1 : w_b10At a1 1 8 = _ := e1
    have e2 : w_b10At a1 2 9 = _ := e2
    have e3 : w_b10At a1 3 9 = _ := e3
    have e4 : w_b10At a1 4 8 = _ := e4
    rw [e1, obind_eq, wi64 (by omega) (by omega), olet_eq, show 3 + (p1 : Int) = ((3 + p1 : Nat) : Int) from by omega]
    have m3 : 3 ≤ 3 + p1 := by omega
    have m12 : 3 + p1 ≤ 12 := by omega
    generalize 3 + p1 = m at *
    obtain ⟨Lo, Mi, Up, eT, hT, hq⟩ := thd_ok b0 m3 m12
    obtain ⟨c, lc, hc, ec⟩ := b10vector b1 (n := m) (by omega)
    have hc := qv4 lc hc
    have rc : Rhs m c 4 := ⟨lc, hc, by decide, by decide⟩
    obtain ⟨y, ey, ly, hy⟩ := th_solve hT rc
    have y11 : ∀ j, j < m → Fv (y.getD j none) ∧ Ab (vl (y.getD j none)) 11 := fun j hj => ⟨(hy j hj).1, (hy j hj).2.1.mono (by decide +kernel)⟩
    obtain ⟨fc, bc⟩ := quarter_one (quarter_dy (n := (p2 : Int) - 4) (by omega)) (by omega)
    obtain ⟨fo, bo⟩ := quarter_one (quarter_dy (n := (p3 : Int) - 4) (by omega)) (by omega)
    rw [eT, obind3_eq, ec, obind_eq, ey, obind2_eq, i_tt_ok hT ly y11, obind2_eq, e2, obind_eq, wi64 (by omega) (by omega), olet_eq, olet_eq, olet_eq, e3, obind_eq, wi64 (by omega) (by omega), olet_eq, olet_eq, olet_eq]
    generalize fop .quo .f32 (fint .f32 ((p2 : Int) - 4)) (some 1082130432) = co at *
    generalize fop .quo .f32 (fint .f32 ((p3 : Int) - 4)) (some 1082130432) = ot at *
    obtain ⟨w, ew, lw, hw, rw'⟩ := ring_ok hT hq rc fc bc fo bo
    rw [ew, obind2_eq, e4, obind_eq, wi64 (by omega) (by omega), olet_eq, show 1 + (p4 : Int) = ((1 + p4 : Nat) : Int) from by omega, shared_ok ey (by omega) (by omega), obind2_eq, bsel_true, bsel_true, bsel_true, bsel_true, hT.valid, obind_eq, bsel_true,
      far_no (by simp [lc]) (by simp; omega) (fun i hi => by
        have hi : i < m := by simpa using hi
        rw [getD_mapR _ hi]
        obtain ⟨q1, q2, _⟩ := tt_near hT hi y11
        exact ⟨q1, (hc i hi).1, (abTri q2 (hy i hi).2.2).mono (by decide +kernel)⟩), obind_eq, bsel_false]
    have at0 : at? ([y, y] : List (List F)) 0 = some y := at?_of (by decide) rfl
    have at1 : at? ([y, y] : List (List F)) 1 = some y := at?_of (by decide) rfl
    have br := b10List_refl (l := y) (by omega) (fun i hi => (hy i (by omega)).1)
    rw [show (!decide ((([y, y] : List (List F)).length : Int) = 2)) = false from rfl, bsel_false, at0, obind_eq, br, obind_eq, bsel_true, at1, obind_eq, br, obind_eq, bsel_true, lw, decide_eq_true rfl, Bool.not_true, bsel_false]
    unfold w_FnShiftRows_k14
    rw [s_tt_ok hT lw hw, obind2_eq, bsel_true]
    have lr : ((List.range m).map fun i => ttE Lo Mi Up w m i).length = m := by simp
    have gr : ∀ i, i < m → ((List.range m).map fun i => ttE Lo Mi Up w m i).getD i none = ttE Lo Mi Up w m i := fun i hi => getD_mapR _ hi
    generalize ((List.range m).map fun i => ttE Lo Mi Up w m i) = r at *
    rw [lr, decide_eq_true rfl, Bool.not_true, bsel_false]
    unfold w_FnShiftRows_k18
    have wm1 : IntKind.i64.wrap ((m : Int) - 1) = ((m - 1 : Nat) : Int) := by rw [wi64 (by omega) (by omega)]; omega
    have r0 : at? r 0 = some (r.getD 0 none) := at?_n (i := 0) none (by omega)
    have w0 : at? w 0 = some (w.getD 0 none) := at?_n (i := 0) none (by omega)
    have wl : at? w ((m - 1 : Nat) : Int) = some (w.getD (m - 1) none) := at?_n none (by omega)
    obtain ⟨t1, t2, t3⟩ := tt_near hT (i := 0) (by omega) hw
    obtain ⟨u1, u2, u3⟩ := tt_near hT (i := m - 1) (by omega) hw
    rw [← gr 0 (by omega)] at t1 t2
    rw [← gr (m - 1) (by omega)] at u1 u2
    obtain ⟨wf0, wb0⟩ := hw 0 (by omega)
    obtain ⟨wfn, wbn⟩ := hw (m - 1) (by omega)
    have pc := bc.mul wbn
    have po := bo.mul wb0
    obtain ⟨s1, s2⟩ := fv_addmul (P := 11) (M := 200) (e := 1 / 10000) t1 fc wfn (pc.mono (by decide +kernel)) ⟨by have := pc.1; have := t2.1; have := t3.1; grind, by have := pc.2; have := t2.2; have := t3.2; grind⟩ (by decide +kernel) (by decide +kernel) (by decide +kernel)
    obtain ⟨v1, v2⟩ := fv_addmul (P := 11) (M := 200) (e := 1 / 10000) u1 fo wf0 (po.mono (by decide +kernel)) ⟨by have := po.1; have := u2.1; have := u3.1; grind, by have := po.2; have := u2.2; have := u3.2; grind⟩ (by decide +kernel) (by decide +kernel) (by decide +kernel)
    have sr0 : ∀ z : F, setAt? r 0 z = some (r.set 0 z) := fun z => setAt?_n (i := 0) _ (by omega)
    rw [r0, obind_eq, wm1, olet_eq, wl, obind_eq, olet_eq, olet_eq, sr0, obind_eq, olet_eq]
    have l0 : ∀ z : F, (r.set 0 z).length = m := fun z => by simp [lr]
    have gl0 : ∀ z : F, (r.set 0 z).getD (m - 1) none = r.getD (m - 1) none := fun z => by rw [getD_setN (by omega), if_neg (by omega)]
    rw [at?_n none (by rw [l0]; omega), obind_eq, gl0, w0, obind_eq, olet_eq, olet_eq, setAt?_n _ (by rw [l0]; omega), obind_eq]
    generalize fop .add .f32 (r.getD 0 none) (fop .mul .f32 co (w.getD (m - 1) none)) = z1 at *
    generalize fop .add .f32 (r.getD (m - 1) none) (fop .mul .f32 ot (w.getD 0 none)) = z2 at *
    rw [far_no (by simp [lr, lc]) (by simp [lr]; omega) (fun i hi => by
      have hi : i < m := by simpa [lr] using hi
      have res := rw' i hi
      rw [getD_setN (by simp [lr]; omega), getD_setN (by omega)]
      by_cases il : m - 1 = i
      · rw [if_pos il]
        subst il
        rw [if_neg (by omega), if_pos rfl] at res
        refine ⟨v1, (hc _ hi).1, ⟨?_, ?_⟩⟩
        · have := v2.1; have := u2.1; have := res.1; grind
        · have := v2.2; have := u2.2; have := res.2; grind
      · rw [if_neg il]
        by_cases i0 : 0 = i
        · rw [if_pos i0]
          subst i0
          rw [if_pos rfl, if_neg (by omega)] at res
          refine ⟨s1, (hc _ hi).1, ⟨?_, ?_⟩⟩
          · have := s2.1; have := t2.1; have := res.1; grind
          · have := s2.2; have := t2.2; have := res.2; grind
        · rw [if_neg i0, gr i hi]
          rw [if_neg (fun h => i0 h.symm), if_neg (fun h => il h.symm)] at res
          obtain ⟨q1, q2, _⟩ := tt_near hT hi hw
          refine ⟨q1, (hc _ hi).1, ⟨?_, ?_⟩⟩
          · have := q2.1; have := res.1; grind
          · have := q2.2; have := res.2; grind), obind_eq]
    rfl


end Go.Proofs.Ytkdociaoknmgbaa
