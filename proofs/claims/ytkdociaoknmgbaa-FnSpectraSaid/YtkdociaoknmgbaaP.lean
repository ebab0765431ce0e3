/- The plain law of FnSpectra. -/
import Derived.Test.YtkdociaoknmgbaaG1
namespace Go.Proofs.Ytkdociaoknmgbaa
set_option linter.unusedSimpArgs false
set_option linter.unusedVariables false
open Go Go.AM
def Small {α : Type} (l : List α) : Prop := l.length ≤ 9223372036854775807
def FOks (l : List F) : Prop := ∀ c ∈ l, FOk .f32 c
theorem FOks.at {l : List F} (h : FOks l) {i : Nat} {c : F} (e : l[i]? = some c) : FOk .f32 c := h c (List.mem_of_getElem? e)
theorem s_l00In_eq (n lo hi : Int) : s_l00In n lo hi = some (decide (lo ≤ n) && decide (n ≤ hi)) := by
  unfold s_l00In; cases decide (lo ≤ n) <;> rfl
theorem i_inRange_eq (n lo hi : Int) : i_inRange n lo hi = some (decide (lo ≤ n) && decide (n ≤ hi)) := by
  unfold i_inRange; cases decide (lo ≤ n) <;> rfl
theorem s_l01Finite_eq {c : F} (h : FOk .f32 c) : s_l01Finite c = some (fin32 c) := by
  unfold s_l01Finite; rw [olet_eq, sub_self h]
theorem s_l02Finite_eq {a : List F} (ha : FOks a) (sa : a.length ≤ 1048576) : s_l02Finite a = some (a.all fin32) := by
  unfold s_l02Finite
  rw [loop_all (l := a) (p := fin32) false ?_ ?_]
  · cases h : a.all fin32 <;> simp [s_l02Finite_k1]
  · intro v x h0 hv hx
    show s_l02Finite_b1 a v = _
    unfold s_l02Finite_b1
    rw [at?_of h0 hx, wrap_succ h0 hv (by omega)]
    simp [bsel_if, hv, s_l01Finite_eq (ha.at hx)]
  · show s_l02Finite_b1 a (a.length : Int) = _
    unfold s_l02Finite_b1
    simp [bsel_if]
theorem i_IsFinite_eq {c : F} (h : FOk .f32 c) : i_IsFinite c = some (fin32 c) := by
  unfold i_IsFinite i_isFinite64 x_math_IsNaN x_math_IsInf x_math_Abs x_math_IsInf_k1
  cases c with
  | none => simp [fwiden, fin32]
  | some b =>
    have hw := feq_refl (k := .f64) (b := FloatKind.f64.encode (FloatKind.f32.decode b)) (fwiden_ok h)
    have hw' : feq .f64 (fwiden (some b)) (fwiden (some b)) = true := hw
    have hm := fabs_max h (by simp)
    simp only [olet_eq, obind_eq, hw', Bool.not_true, bsel_false, decide_true, bsel_true, hm, Bool.not_not]
theorem i_areFinite_1_eq {c : F} (h : FOk .f32 c) : i_areFinite_1 c = some (!fin32 c) := by
  unfold i_areFinite_1; rw [i_IsFinite_eq h]; rfl
theorem any_not {α : Type} (l : List α) (p : α → Bool) : l.any (fun x => !p x) = !l.all p := by
  induction l with
  | nil => rfl
  | cons a l ih => simp [ih]
theorem i_areFinite_eq {a : List F} (ha : FOks a) (sa : a.length ≤ 1048576) : i_areFinite a = some (a.all fin32) := by
  unfold i_areFinite x_slices_ContainsFunc_float32_float32_1Fi_areFinite_1 x_slices_IndexFunc_float32_float32_1Fi_areFinite_1
  obtain ⟨r, h1, h2⟩ := loop_find (l := a) (p := fun c => !fin32 c) (step := x_slices_IndexFunc_float32_float32_1Fi_areFinite_1_s1 a) (by
    intro v x h0 hv hx
    show x_slices_IndexFunc_float32_float32_1Fi_areFinite_1_b1 a v = _
    unfold x_slices_IndexFunc_float32_float32_1Fi_areFinite_1_b1
    rw [at?_of h0 hx, wrap_succ h0 hv (by omega)]
    simp [bsel_if, hv, i_areFinite_1_eq (ha.at hx)]) (by
    show x_slices_IndexFunc_float32_float32_1Fi_areFinite_1_b1 a (a.length : Int) = _
    unfold x_slices_IndexFunc_float32_float32_1Fi_areFinite_1_b1
    simp [bsel_if])
  rw [h1, any_not]
  cases h : a.all fin32 <;> simp [x_slices_IndexFunc_float32_float32_1Fi_areFinite_1_k1, h2]
abbrev q1 : List F := [some 1073741824, some 1065353216, some 1065353216, some 1073741824]
abbrev q2 : List F := [some 1065353216, some 0]
theorem small_mul {x y : Nat} (hx : x ≤ 12) (hy : y ≤ 12) : x * y ≤ 144 := Nat.mul_le_mul hx hy
def side (n : Int) : Bool := decide (1 ≤ n) && decide (n ≤ 12)
theorem s_l02Sides_eq (x y : Int) : s_l02Sides x y = some (side x && side y) := by
  unfold s_l02Sides; rw [s_l00In_eq, s_l00In_eq]; unfold side
  cases decide (1 ≤ x) <;> cases decide (x ≤ 12) <;> rfl
def validM (a0 a1 : Int) (a2 : List F) : Bool := side a0 && side a1 && decide ((a2.length : Int) = IntKind.i64.wrap (a0 * a1)) && a2.all fin32
theorem s_l02Is_eq (a0 a1 : Int) {a2 : List F} (g2 : FOks a2) (s2 : a2.length ≤ 1048576) : s_l02Is a0 a1 a2 = some (validM a0 a1 a2) := by
  unfold s_l02Is validM
  rw [s_l02Sides_eq, s_l02Finite_eq g2 s2]
  cases side a0 <;> cases side a1 <;> simp [bsel_if] <;> split <;> simp_all
theorem FOks.getD {l : List F} (h : FOks l) (n : Nat) : FOk .f32 (l.getD n none) := by
  simp only [List.getD]
  cases e : l[n]? with
  | none => exact fok_none _
  | some c => exact h.at e
theorem FOks.set {l : List F} (h : FOks l) {n : Nat} {x : F} (hx : FOk .f32 x) : FOks (l.set n x) := by
  intro c hc
  rcases List.mem_or_eq_of_mem_set hc with h1 | h1
  · exact h c h1
  · exact h1 ▸ hx
theorem wsucc {i : Nat} (h : i ≤ 1000000000) : IntKind.i64.wrap ((i : Int) + 1) = ((i + 1 : Nat) : Int) := by
  rw [wrap_i64 (by omega) (by omega)]; omega
theorem dlt {i n : Nat} (h : i < n) : decide ((i : Int) < (n : Int)) = true := by simp; omega
theorem dnlt {n : Nat} : decide ((n : Int) < (n : Int)) = false := by simp
theorem i_Matrix_set_02o_eq {A C i k : Nat} {L : List F} (r : Int) (h : Mat A C L) (hi : i < A) (hk : k < C) (x : F) : i_Matrix_set_02o r (C : Int) (i : Int) (k : Int) x L = some (sm L C i k x) := by
  obtain ⟨e1, e2⟩ := idx_w h.A1 h.C1 hi hk
  unfold i_Matrix_set_02o
  rw [e1, olet_eq, e2, olet_eq, setAt?_n x (h.lt hi hk), obind_eq]
theorem getD_of_lt {α : Type} {l : List α} {n : Nat} (d : α) (h : n < l.length) : l[n]? = some (l.getD n d) := by simp [List.getD, h]
theorem mat_valid {A C : Nat} {L : List F} (h : Mat A C L) (hA : 0 < A) (hC : 0 < C) : validM (A : Int) (C : Int) L = L.all fin32 := by
  unfold validM side
  have hAC := small_mul h.A1 h.C1
  have h1 := h.A1
  have h2 := h.C1
  rw [← Int.natCast_mul, wn (by omega), h.len]
  have e1 : decide ((1 : Int) ≤ (A : Int)) = true := by simp; omega
  have e2 : decide ((A : Int) ≤ 12) = true := by simp; omega
  have e3 : decide ((1 : Int) ≤ (C : Int)) = true := by simp; omega
  have e4 : decide ((C : Int) ≤ 12) = true := by simp; omega
  rw [e1, e2, e3, e4]
  simp
theorem i_newMatrix_eq {A C : Nat} (hA : A ≤ 12) (hC : C ≤ 12) : i_newMatrix (A : Int) (C : Int) = some ((A : Int), (C : Int), List.replicate (A * C) (some 0)) := by
  have hAC := small_mul hA hC
  unfold i_newMatrix
  have mk : mkok 4 ((A * C : Nat) : Int) = true := by simp [mkok]; omega
  rw [← Int.natCast_mul, wn (by omega), olet_eq, mk]; rfl
def fillR (f : Nat → Nat → F) (C i : Nat) (L : List F) : List F := run (fun k L => sm L C i k (f i k)) 0 C L
def fillA (f : Nat → Nat → F) (A C : Nat) (L : List F) : List F := run (fillR f C) 0 A L
theorem fillR_spec {f : Nat → Nat → F} {A C i : Nat} {L : List F} (h : Mat A C L) (hi : i < A) : Mat A C (fillR f C i L) ∧ ∀ j k, j < A → k < C → gm none (fillR f C i L) C j k = if j = i then f i k else gm none L C j k := by
  have := run_inv (f := fun k L => sm L C i k (f i k)) (fun c L' => Mat A C L' ∧ ∀ j k, j < A → k < C → gm none L' C j k = if j = i ∧ k < c then f i k else gm none L C j k) C 0 L ⟨h, fun j k _ _ => by simp⟩ (fun c L' _ hc hI => by
    refine ⟨hI.1.set _ _ _, fun j k hj hk => ?_⟩
    rw [gm_set hI.1 hi (by omega) hk, hI.2 j k hj hk]
    by_cases e1 : i = j
    · subst e1
      by_cases e2 : c = k
      · subst e2; simp
      · by_cases e3 : k < c
        · rw [if_neg (by omega), if_pos (by omega), if_pos (by omega)]
        · rw [if_neg (by omega), if_neg (by omega), if_neg (by omega)]
    · rw [if_neg (by omega), if_neg (by omega), if_neg (by omega)])
  refine ⟨this.1, fun j k hj hk => ?_⟩
  unfold fillR
  rw [this.2 j k hj hk]
  by_cases e : j = i
  · rw [if_pos ⟨e, by omega⟩, if_pos e]
  · rw [if_neg (by omega), if_neg e]
theorem fillA_spec {f : Nat → Nat → F} {A C : Nat} {L : List F} (h : Mat A C L) : Mat A C (fillA f A C L) ∧ ∀ j k, j < A → k < C → gm none (fillA f A C L) C j k = f j k := by
  have := run_inv (f := fillR f C) (fun r L' => Mat A C L' ∧ ∀ j k, j < r → j < A → k < C → gm none L' C j k = f j k) A 0 L ⟨h, fun j k hj _ _ => by omega⟩ (fun r L' _ hr hI => by
    obtain ⟨s1, s2⟩ := fillR_spec (f := f) hI.1 (show r < A by omega)
    refine ⟨s1, fun j k hj hjA hk => ?_⟩
    rw [s2 j k hjA hk]
    by_cases e : j = r
    · rw [if_pos e, e]
    · rw [if_neg e]; exact hI.2 j k (by omega) hjA hk)
  exact ⟨this.1, fun j k hj hk => this.2 j k (by omega) hj hk⟩
def tabM (A C : Nat) (f : Nat → Nat → F) : List F := fillA f A C (List.replicate (A * C) (some 0))
theorem zmat {A C : Nat} (hA : A ≤ 12) (hC : C ≤ 12) : Mat A C (List.replicate (A * C) (some 0 : F)) := ⟨hA, hC, by simp⟩
theorem tabM_mat {A C : Nat} {f : Nat → Nat → F} (hA : A ≤ 12) (hC : C ≤ 12) : Mat A C (tabM A C f) := (fillA_spec (zmat hA hC)).1
theorem tabM_gm {A C : Nat} {f : Nat → Nat → F} (hA : A ≤ 12) (hC : C ≤ 12) {i k : Nat} (hi : i < A) (hk : k < C) : gm none (tabM A C f) C i k = f i k := (fillA_spec (zmat hA hC)).2 i k hi hk
theorem run_map {α : Type} (f : Nat → α) : ∀ n : Nat, run (fun i (l : List α) => l ++ [f i]) 0 n [] = (List.range n).map f
  | 0 => rfl
  | n + 1 => by rw [run_last, run_map f n]; simp [List.range_succ]
def dotE (f g : Nat → F) (i : Nat) (y : F) : F := fop .add .f32 y (fop .mul .f32 (f i) (g i))
def dotN (f g : Nat → F) (n : Nat) : F := run (dotE f g) 0 n (some 0)
theorem dotN_congr {f g f' g' : Nat → F} {n : Nat} (h : ∀ i, i < n → f i = f' i ∧ g i = g' i) : dotN f g n = dotN f' g' n :=
  run_congr (fun _ _ => True) n 0 _ trivial fun i y _ hi _ => ⟨by unfold dotE; rw [(h i (by omega)).1, (h i (by omega)).2], trivial⟩
theorem sub?_n {α : Type} {L : List α} {a b : Nat} (h1 : a ≤ b) (h2 : b ≤ L.length) : sub? L (a : Int) (b : Int) = some ((L.take b).drop a) := by
  unfold sub?
  rw [if_pos (by omega)]; rfl
abbrev gI (l : List Int) (i : Nat) : Int := l.getD i 0
structure SpIn (S : Nat) (a1 a2 : List Int) : Prop where
  S1 : 1 ≤ S
  S2 : S ≤ 32
  l1 : a1.length = S + 1
  l2 : a2.length ≤ 512
  z : gI a1 0 = 0
  e : gI a1 S = (a2.length : Int)
structure SpGood (S : Nat) (a1 a2 : List Int) : Prop where
  s : ∀ i, i < S → gI a1 i ≤ gI a1 (i + 1)
  c : ∀ k, k < a2.length → 0 ≤ gI a2 k ∧ gI a2 k ≤ (S : Int) - 1
  o : ∀ i, i < S → ∀ k : Nat, gI a1 i < (k : Int) → (k : Int) < gI a1 (i + 1) → gI a2 (k - 1) < gI a2 k
theorem SpGood.mono {S : Nat} {a1 a2 : List Int} (h : SpGood S a1 a2) : ∀ (d i : Nat), i + d ≤ S → gI a1 i ≤ gI a1 (i + d)
  | 0, i, _ => Int.le_refl _
  | d + 1, i, hd => Int.le_trans (h.mono d i (by omega)) (h.s (i + d) (by omega))
theorem SpGood.lo {S : Nat} {a1 a2 : List Int} (h : SpGood S a1 a2) (i0 : SpIn S a1 a2) {i : Nat} (hi : i ≤ S) : 0 ≤ gI a1 i ∧ gI a1 i ≤ (a2.length : Int) := by
  have h1 := h.mono i 0 (by omega)
  have h2 := h.mono (S - i) i (by omega)
  rw [Nat.zero_add, i0.z] at h1
  rw [show i + (S - i) = S by omega, i0.e] at h2
  exact ⟨h1, h2⟩
structure SpOk (S : Nat) (a1 a2 : List Int) (a3 : List F) : Prop where
  i : SpIn S a1 a2
  g : SpGood S a1 a2
  l : a3.length = a2.length
theorem SpOk.row {S : Nat} {a1 a2 : List Int} {a3 : List F} (h : SpOk S a1 a2 a3) {i : Nat} (hi : i < S) : 0 ≤ gI a1 i ∧ gI a1 i ≤ gI a1 (i + 1) ∧ gI a1 (i + 1) ≤ (a2.length : Int) :=
  ⟨(h.g.lo h.i (by omega)).1, h.g.s i hi, (h.g.lo h.i (i := i + 1) (by omega)).2⟩
def loK (a1 : List Int) (i : Nat) : Nat := (gI a1 i).toNat
def laK (a1 : List Int) (i : Nat) : Nat := (gI a1 (i + 1)).toNat - 1
structure Root (S : Nat) (a1 a2 : List Int) (a3 : List F) : Prop where
  ok : SpOk S a1 a2 a3
  low : ∀ i, i < S → gI a1 i ≤ gI a1 (i + 1) - 1 ∧ gI a2 (laK a1 i) = (i : Int)
theorem Root.at {S : Nat} {a1 a2 : List Int} {a3 : List F} (h : Root S a1 a2 a3) {i : Nat} (hi : i < S) : loK a1 i ≤ laK a1 i ∧ laK a1 i < a2.length ∧ ((laK a1 i : Nat) : Int) = gI a1 (i + 1) - 1 ∧ ((loK a1 i : Nat) : Int) = gI a1 i := by
  obtain ⟨r1, r2, r3⟩ := h.ok.row hi
  obtain ⟨q1, _⟩ := h.low i hi
  unfold loK laK
  omega
def vget (v : List F) (x : Int) : F := v.getD x.toNat none
def Names (n : Nat) (L : List Int) : Prop := ∀ x ∈ L, 0 ≤ x ∧ x < (n : Int)
theorem Names.at {n : Nat} {L : List Int} (h : Names n L) {j : Nat} (hj : j < L.length) : 0 ≤ L.getD j 0 ∧ L.getD j 0 < (n : Int) := by
  rw [List.getD_eq_getElem?_getD, List.getElem?_eq_getElem hj]
  exact h _ (List.getElem_mem hj)
theorem Names.set {n : Nat} {L : List Int} (h : Names n L) {j : Nat} {x : Int} (hx : 0 ≤ x ∧ x < (n : Int)) : Names n (L.set j x) := fun y hy => (List.mem_or_eq_of_mem_set hy).elim (fun k => h y k) (fun k => by rw [k]; exact hx)
theorem vget_mem {v : List F} {x : Int} (h0 : 0 ≤ x) (h1 : x < (v.length : Int)) : vget v x ∈ v := by
  unfold vget
  rw [List.getD_eq_getElem?_getD, List.getElem?_eq_getElem (by omega)]
  exact List.getElem_mem _
def wkey (c : F) : Nat := c.getD 0
def sqW (v : List F) (x : Int) : Nat := wkey (vget v x)
def SqOk (v : List F) : Prop := ∀ c ∈ v, ∃ b, c = some b ∧ b ≤ 2139095040
theorem SqOk.at {v : List F} (h : SqOk v) {x : Int} (h0 : 0 ≤ x) (h1 : x < (v.length : Int)) : vget v x = some (sqW v x) ∧ sqW v x ≤ 2139095040 := by
  obtain ⟨b, e, hb⟩ := h _ (vget_mem h0 h1)
  unfold sqW
  rw [e]; exact ⟨rfl, hb⟩
def vecB (b : List F) : Bool := decide (1 ≤ b.length) && (decide (b.length ≤ 256) && b.all fin32)
theorem s_l02Vector_eq {b : List F} (g : FOks b) (s : b.length ≤ 1048576) : s_l02Vector b = some (vecB b) := by
  unfold s_l02Vector vecB
  by_cases h1 : 1 ≤ b.length
  · rw [decide_eq_true h1, decide_eq_true (show (1 : Int) ≤ (b.length : Int) by omega), bsel_true, Bool.true_and]
    by_cases h2 : b.length ≤ 256
    · rw [decide_eq_true h2, decide_eq_true (show (b.length : Int) ≤ 256 by omega), bsel_true, Bool.true_and, s_l02Finite_eq g s, obind_eq]
    · rw [decide_eq_false h2, decide_eq_false (show ¬ (b.length : Int) ≤ 256 by omega), bsel_false, Bool.false_and]
  · rw [decide_eq_false h1, decide_eq_false (show ¬ (1 : Int) ≤ (b.length : Int) by omega), bsel_false, Bool.false_and]
theorem s_l02Dot_dotN {l m : List F} (h : l.length ≤ m.length) (hl : l.length ≤ 1000000) : s_l02Dot l m = some (dotN (fun i => l.getD i none) (fun i => m.getD i none) l.length) := by
  obtain ⟨e, _⟩ := loop_run (step := s_l02Dot_s1 l m) (fun (i : Nat) (y : F) => (y, (i : Int))) (dotE (fun i => l.getD i none) (fun i => m.getD i none)) (fun y => y) (fun _ _ => True) (lo := 0) (n := l.length) (Nat.zero_le _) (s0 := some 0) trivial
    (fun i y _ hi _ => by
      refine ⟨?_, trivial⟩
      show s_l02Dot_b1 _ _ _ _ = _
      unfold s_l02Dot_b1
      rw [dlt hi, bsel_true, at?_n none hi, obind_eq, at?_n none (by omega), obind_eq, olet_eq, olet_eq, wsucc (by omega)]
      rfl)
    (fun y _ => by
      show s_l02Dot_b1 _ _ _ _ = _
      unfold s_l02Dot_b1
      rw [dnlt, bsel_false])
  unfold s_l02Dot
  replace e : loopM (s_l02Dot_s1 l m) (some 0, 0) = some (.inl (run (dotE (fun i => l.getD i none) (fun i => m.getD i none)) 0 (l.length - 0) (some 0))) := e
  rw [e]; rfl
theorem wi64 {n : Int} (h0 : -9000000000000000000 ≤ n) (h1 : n ≤ 9000000000000000000) : IntKind.i64.wrap n = n := wrap_i64 (by omega) (by omega)
def hexD (d : Nat) : Int := if d < 10 then 48 + (d : Int) else 87 + (d : Int)
def hxb (d : Nat) : UInt8 := UInt8.ofNat (hexD d).toNat
def hU : Nat → Nat → List UInt8
  | 0, _ => []
  | k + 1, n => hxb (n / 16 ^ k % 16) :: hU k n
def Byt (l : List Int) : Prop := ∀ z ∈ l, 0 ≤ z ∧ z < 256
theorem byt_of {l : List Int} (h : ∀ z ∈ l, (Lit.int .u8 z).wf = true) : Byt l := by
  intro z hz
  have := h z hz
  have e0 : IntKind.u8.min = 0 := by decide
  have e1 : IntKind.u8.max = 255 := by decide
  simp only [Lit.wf, e0, e1, Bool.and_eq_true, decide_eq_true_eq] at this
  constructor <;> omega
def Qd (x : F) : Prop := ∃ q : Int, q.natAbs ≤ 16 ∧ Dy .f32 2 q x
open Classical in
noncomputable def qv (x : F) : Int := if h : Qd x then h.choose else 0
theorem qd_dy {x : F} (h : Qd x) : Dy .f32 2 (qv x) x := by
  unfold qv
  rw [dif_pos h]; exact h.choose_spec.2
theorem four_dy : Dy .f32 0 4 (some 1082130432) := by
  have e : fint .f32 4 = some 1082130432 := by decide +kernel
  rw [← e]; exact Dy.int (by decide)
structure QM (A C : Nat) (L : List F) : Prop where
  m : Mat A C L
  q : ∀ x ∈ L, Qd x
theorem QM.at {A C : Nat} {L : List F} (h : QM A C L) {i k : Nat} (hi : i < A) (hk : k < C) : Qd (gm none L C i k) := by
  have := h.m.lt hi hk
  unfold gm
  exact h.q _ (List.mem_of_getElem? (getD_of_lt none this))
theorem QM.fin {A C : Nat} {L : List F} (h : QM A C L) : L.all fin32 = true := List.all_eq_true.2 fun x hx => (qd_dy (h.q x hx)).fin
theorem mem_gm {A C : Nat} {L : List F} (h : Mat A C L) {x : F} (hx : x ∈ L) : ∃ i k, i < A ∧ k < C ∧ x = gm none L C i k := by
  obtain ⟨q, hq, rfl⟩ := List.mem_iff_getElem.1 hx
  have hq' : q < A * C := by rw [← h.len]; exact hq
  have hC : 0 < C := by
    rcases Nat.eq_zero_or_pos C with h0 | h0
    · subst h0; simp at hq'
    · exact h0
  have h3 : q / C * C + q % C = q := by rw [Nat.mul_comm]; exact Nat.div_add_mod q C
  refine ⟨q / C, q % C, (Nat.div_lt_iff_lt_mul hC).2 hq', Nat.mod_lt _ hC, ?_⟩
  unfold gm
  rw [h3]
  simp [List.getD, hq]
theorem sub_getD {l : List F} {v to j : Nat} (hj : v + j < to) : ((l.take to).drop v).getD j none = l.getD (v + j) none := by
  simp [List.getD, List.getElem?_drop, List.getElem?_take, hj]
theorem loop_all {n : Nat} {step : Int → Option (LR Int Unit Bool)} (hn : n ≤ 1000000) (hs : ∀ i : Nat, i < n → step (i : Int) = some (.next ((i + 1 : Nat) : Int))) (he : step (n : Int) = some (.out ())) : loopM step 0 = some (.inl ()) :=
  (loop_run (step := step) (fun (i : Nat) (_ : Unit) => (i : Int)) (fun _ u => u) (fun _ => ()) (fun _ _ => True) (lo := 0) (n := n) (Nat.zero_le _) (s0 := ()) trivial (fun i _ _ hi _ => ⟨hs i hi, trivial⟩) (fun _ _ => he)).1
def cE : Rat := 3 / 100000
noncomputable def vm (n : Nat) (R : List F) (i k : Nat) : Rat := vl (gm none R n i k)
theorem dotN_near {f g : Nat → F} {P S e : Rat} : ∀ {n : Nat}, n ≤ 16 → (∀ j, j < n → Fv (f j) ∧ Fv (g j) ∧ Ab (vl (f j) * vl (g j)) P) → (∀ j, j ≤ n → Ab (rs (fun t => vl (f t) * vl (g t)) j) S) → P ≤ 100000 → S ≤ 100000 → e32 P + e32 (S + 16 * e + e32 P) ≤ e → 0 ≤ e → e ≤ 1 →
    Fv (dotN f g n) ∧ Ab (vl (dotN f g n) - rs (fun t => vl (f t) * vl (g t)) n) ((n : Rat) * e)
  | 0, _, _, _, _, _, _, e0, _ => by
    refine ⟨fv_zero.1, ?_⟩
    show Ab (vl (some 0) - 0) ((0 : Nat) * e)
    rw [fv_zero.2]
    exact ⟨by simp; grind, by simp; grind⟩
  | n + 1, hn, h, hS, hP, hS1, he, e0, e1 => by
    obtain ⟨i1, i2⟩ := dotN_near (n := n) (by omega) (fun j hj => h j (by omega)) (fun j hj => hS j (by omega)) hP hS1 he e0 e1
    obtain ⟨f1, f2, f3⟩ := h n (by omega)
    have e2 : dotN f g (n + 1) = fop .add .f32 (dotN f g n) (fop .mul .f32 (f n) (g n)) := by
      unfold dotN
      rw [run_last, Nat.zero_add]; rfl
    rw [e2]
    have hs := hS (n + 1) (Nat.le_refl _)
    have e3 : rs (fun t => vl (f t) * vl (g t)) (n + 1) = rs (fun t => vl (f t) * vl (g t)) n + vl (f n) * vl (g n) := rfl
    rw [e3] at hs ⊢
    generalize rs (fun t => vl (f t) * vl (g t)) n = T at *
    generalize dotN f g n = z at *
    have hn16 : (n : Rat) ≤ 16 := by exact_mod_cast (show n ≤ 16 by omega)
    have hne : (n : Rat) * e ≤ 16 * e := Rat.mul_le_mul_of_nonneg_right hn16 e0
    have hM : Ab (vl z + vl (f n) * vl (g n)) (S + 16 * e) := by
      have := (i2.mono hne).add hs
      rw [show vl z - T + (T + vl (f n) * vl (g n)) = vl z + vl (f n) * vl (g n) from by grind] at this
      exact this.mono (by grind)
    obtain ⟨r1, r2⟩ := fv_addmul i1 f1 f2 f3 hM (by grind) (by grind) he
    refine ⟨r1, ?_⟩
    have := r2.add i2
    rw [show vl (fop .add .f32 z (fop .mul .f32 (f n) (g n))) - (vl z + vl (f n) * vl (g n)) + (vl z - T) = vl (fop .add .f32 z (fop .mul .f32 (f n) (g n))) - (T + vl (f n) * vl (g n)) from by grind] at this
    exact this.mono (by push_cast; grind)
theorem c001 : ∃ q, Rv .f64 q (some 4562254508917369340) ∧ 999 / 1000000 ≤ q := by
  have h : Dy .f64 1074 (fval .f64 4562254508917369340) (some 4562254508917369340) := ⟨_, rfl, by decide +kernel, by decide +kernel, by decide, by rw [show lpn .f64 - 1074 = 0 from by decide]; simp⟩
  have := Rv.of_dy h
  refine ⟨_, this, ?_⟩
  decide +kernel
theorem e64_le {M : Rat} (h : M ≤ 1000000) (h0 : 0 ≤ M) : er .f64 M ≤ 1 / 1000000000 := by
  have ep64 : ep .f64 = 1 / 4503599627370496 := by decide +kernel
  have et64 : et .f64 ≤ 1 / 1000000000000000 := by decide +kernel
  unfold er
  rw [ep64]; grind
theorem gap_near {x y : F} {p q e : Rat} (hx : Rv .f64 p x) (hy : Rv .f64 q y) (h : Ab (p - q) e) (he : e ≤ 1000000) : ∃ z g, w_b10Gap x y = some z ∧ Rv .f64 g z ∧ Ab g (e + 1 / 1000000000) := by
  have e0 := h.nonneg
  unfold w_b10Gap
  rw [(hx.ord hy).1]
  by_cases hlt : p < q
  · rw [decide_eq_true hlt, bsel_true, olet_eq]
    have h2 : Ab (q - p) e := by have := h.neg; rw [show -(p - q) = q - p from by grind] at this; exact this
    obtain ⟨g, g1, g2⟩ := hy.sub hx h2 (big60 (by grind))
    refine ⟨_, g, rfl, g1, ?_⟩
    have := (g2.mono (e64_le he e0)).add h2
    rw [show g - (q - p) + (q - p) = g from by grind] at this
    exact this.mono (by grind)
  · rw [decide_eq_false hlt, bsel_false, olet_eq]
    obtain ⟨g, g1, g2⟩ := hx.sub hy h (big60 (by grind))
    refine ⟨_, g, rfl, g1, ?_⟩
    have := (g2.mono (e64_le he e0)).add h
    rw [show g - (p - q) + (p - q) = g from by grind] at this
    exact this.mono (by grind)
theorem gap_le {x y : F} {p q : Rat} (hx : Rv .f64 p x) (hy : Rv .f64 q y) (h : Ab (p - q) (998 / 1000000)) : ∃ z, w_b10Gap x y = some z ∧ fle .f64 z (some 4562254508917369340) = true ∧ flt .f64 (some 4562254508917369340) z = false := by
  obtain ⟨z, g, e, g1, g2⟩ := gap_near hx hy h (by decide +kernel)
  obtain ⟨c, c1, c2⟩ := c001
  refine ⟨z, e, ?_, ?_⟩
  · rw [(g1.ord c1).2.1, decide_eq_true]; have := g2.2; grind
  · rw [(c1.ord g1).1, decide_eq_false]; have := g2.2; grind
theorem far_no {a b : List F} (hl : a.length = b.length) (hs : a.length ≤ 1000000) (h : ∀ i, i < a.length → Fv (a.getD i none) ∧ Fv (b.getD i none) ∧ Ab (vl (a.getD i none) - vl (b.getD i none)) (998 / 1000000)) : w_b10Far a b (some 4562254508917369340) = some false := by
  unfold w_b10Far
  rw [hl, decide_eq_true rfl, Bool.not_true, bsel_false]
  have e := (loop_run (step := w_b10Far_s1 a b (some 4562254508917369340)) (fun (i : Nat) (_ : Unit) => (i : Int)) (fun _ u => u) (fun _ => ()) (fun _ _ => True) (lo := 0) (n := a.length) (Nat.zero_le _) (s0 := ()) trivial
    (fun i _ _ hi _ => by
      refine ⟨?_, trivial⟩
      show w_b10Far_b1 a b _ (i : Int) = _
      obtain ⟨f1, f2, f3⟩ := h i hi
      obtain ⟨z, z1, z2, _⟩ := gap_le f1.rv.widen f2.rv.widen f3
      unfold w_b10Far_b1
      rw [dlt hi, bsel_true, at?_n none hi, obind_eq, olet_eq, at?_n none (by omega), obind_eq, olet_eq, z1, obind_eq, z2, bsel_true, olet_eq, wsucc (by omega)])
    (fun _ _ => by
      show w_b10Far_b1 a b _ (a.length : Int) = _
      unfold w_b10Far_b1
      rw [dnlt, bsel_false])).1
  have e : loopM (w_b10Far_s1 a b (some 4562254508917369340)) 0 = some (.inl ()) := e
  rw [e]; rfl
theorem s_Times_eq {A B : Nat} {L x : List F} (m : Mat A B L) (hx : x.length = B) : s_l02Times (A : Int) (B : Int) L x = some ((List.range A).map fun i => dotN (fun k => gm none L B i k) (fun k => x.getD k none) B) := by
  have hA := m.A1
  have hB := m.C1
  unfold s_l02Times
  have e := (loop_run (step := s_l02Times_s1 (A : Int) (B : Int) L x) (fun (i : Nat) (l : List F) => (l, (i : Int))) (fun i l => l ++ [dotN (fun k => gm none L B i k) (fun k => x.getD k none) B]) (fun l => l) (fun i l => l.length = i) (lo := 0) (n := A) (Nat.zero_le _) (s0 := []) rfl
    (fun i l _ hi h3 => by
      refine ⟨?_, by simp [h3]⟩
      show s_l02Times_b1 _ _ _ _ _ _ = _
      unfold s_l02Times_b1
      have ap : apok 4 l.length 1 = true := by simp [apok]; omega
      have hiB : i * B ≤ 144 := Nat.le_trans (Nat.mul_le_mul (show i ≤ 12 by omega) hB) (by decide)
      have hiB2 : (i + 1) * B ≤ 156 := Nat.le_trans (Nat.mul_le_mul (show i + 1 ≤ 13 by omega) hB) (by decide)
      have hin : (i + 1) * B ≤ L.length := by rw [m.len]; exact Nat.mul_le_mul_right _ (by omega)
      have hle : i * B ≤ (i + 1) * B := Nat.mul_le_mul_right _ (by omega)
      have sl : sub? L ((i * B : Nat) : Int) (((i + 1) * B : Nat) : Int) = some ((L.take ((i + 1) * B)).drop (i * B)) := sub?_n hle hin
      have ll : ((L.take ((i + 1) * B)).drop (i * B)).length = B := by rw [List.length_drop, List.length_take, Nat.min_eq_left hin, Nat.add_mul, Nat.one_mul]; omega
      rw [dlt hi, bsel_true, ← Int.natCast_mul, wn (by omega), olet_eq, wsucc (by omega), olet_eq, ← Int.natCast_mul, wn (by omega), olet_eq, sl, obind_eq, s_l02Dot_dotN (by omega) (by omega), obind_eq, ap, need_true, olet_eq, ll]
      have ed : dotN (fun j => ((L.take ((i + 1) * B)).drop (i * B)).getD j none) (fun j => x.getD j none) B = dotN (fun k => gm none L B i k) (fun k => x.getD k none) B :=
        dotN_congr fun j hj => ⟨by unfold gm; rw [sub_getD (by rw [Nat.add_mul, Nat.one_mul]; omega)], rfl⟩
      rw [ed])
    (fun l _ => by
      show s_l02Times_b1 _ _ _ _ _ _ = _
      unfold s_l02Times_b1
      rw [dnlt, bsel_false])).1
  rw [Nat.sub_zero, run_map] at e
  have e : loopM (s_l02Times_s1 (A : Int) (B : Int) L x) ([], 0) = some (.inl _) := e
  rw [e]; rfl
theorem s_TimesVector_fv {A B : Nat} {L x : List F} (m : Mat A B L) (hA : 0 < A) (hB : 0 < B) (fL : ∀ y ∈ L, Fv y) (hx : x.length = B) (fx : ∀ y ∈ x, Fv y) (fd : ∀ i, i < A → Fv (dotN (fun k => gm none L B i k) (fun k => x.getD k none) B)) :
    s_TimesVector (A : Int) (B : Int) L x = some (true, (List.range A).map fun i => dotN (fun k => gm none L B i k) (fun k => x.getD k none) B) := by
  have hA1 := m.A1
  have hB1 := m.C1
  have gL : FOks L := fun y hy => (fL y hy).fok
  have gx : FOks x := fun y hy => (fx y hy).fok
  have aL : L.all fin32 = true := List.all_eq_true.2 fun y hy => (fL y hy).fin
  have ax : x.all fin32 = true := List.all_eq_true.2 fun y hy => (fx y hy).fin
  have fl : ∀ y ∈ ((List.range A).map fun i => dotN (fun k => gm none L B i k) (fun k => x.getD k none) B), Fv y := fun y hy => by
    obtain ⟨i, hi, rfl⟩ := List.mem_map.1 hy
    exact fd i (List.mem_range.1 hi)
  generalize hl : ((List.range A).map fun i => dotN (fun k => gm none L B i k) (fun k => x.getD k none) B) = l at *
  have ll : l.length = A := by rw [← hl]; simp
  unfold s_TimesVector
  rw [s_l02Is_eq _ _ gL m.le, mat_valid m hA hB, aL, obind_eq, bsel_true, s_l02Vector_eq gx (by omega), obind_eq]
  have hv : vecB x = true := by unfold vecB; rw [hx, decide_eq_true (by omega), decide_eq_true (by omega), ax]; rfl
  rw [hv, bsel_true, hx, decide_eq_true rfl, Bool.not_true, bsel_false, s_Times_eq m hx, hl, obind_eq]
  unfold s_l02List_0o
  rw [s_l02Finite_eq (fun y hy => (fl y hy).fok) (by omega), obind_eq, show l.all fin32 = true from List.all_eq_true.2 fun y hy => (fl y hy).fin, bsel_true, obind_eq, osum_inl, obind2_eq, decide_eq_true rfl, need_true]
theorem b10at {a : List Int} (ha : Byt a) {k n : Nat} (h1 : 1 ≤ n) (hk : k ≤ 1000) : ∃ v : Nat, v < n ∧ w_b10At a (k : Int) (n : Int) = some (v : Int) := by
  unfold w_b10At
  by_cases h : n ≤ 1
  · rw [decide_eq_true (by omega), bsel_true]; exact ⟨0, by omega, rfl⟩
  · rw [decide_eq_false (by omega), bsel_false]
    by_cases hl : k < a.length
    · obtain ⟨x, hx⟩ : ∃ x, a[k]? = some x := ⟨_, List.getElem?_eq_getElem hl⟩
      obtain ⟨x0, x1⟩ := ha x (List.mem_of_getElem? hx)
      rw [decide_eq_true (by omega), bsel_true, at?_of (by omega) (by rw [show (k : Int).toNat = k from by omega]; exact hx), obind_eq]
      simp only [olet_eq]
      rw [wi64 (by omega) (by omega), decide_eq_false (by omega), Bool.not_false, need_true]
      refine ⟨x.toNat % n, Nat.mod_lt _ (by omega), ?_⟩
      rw [Int.tmod_eq_emod_of_nonneg (by omega), Int.natCast_emod, show ((x.toNat : Nat) : Int) = x from by omega]
    · rw [decide_eq_false (by omega), bsel_false]
      simp only [olet_eq]
      rw [show IntKind.i64.wrap ((k : Int) * 37) = (k : Int) * 37 from wi64 (by omega) (by omega), show IntKind.i64.wrap ((k : Int) * 37 + 11) = (k : Int) * 37 + 11 from wi64 (by omega) (by omega), decide_eq_false (by omega), Bool.not_false, need_true]
      refine ⟨(k * 37 + 11) % n, Nat.mod_lt _ (by omega), ?_⟩
      rw [Int.tmod_eq_emod_of_nonneg (by omega), Int.natCast_emod]
      push_cast; rfl
theorem b10long {a b : List Int} : ∃ r, w_b10Long a b = some r := by
  unfold w_b10Long
  cases decide (1048576 < (a.length : Int)) with
  | true => exact ⟨_, rfl⟩
  | false => exact ⟨_, rfl⟩
theorem quarter_dy {n : Int} (h : n.natAbs ≤ 1000) : Dy .f32 2 n (fop .quo .f32 (fint .f32 n) (some 1082130432)) := by
  have hd : (2 : Nat) ^ dgn .f32 = 16777216 := by decide
  have h1 : Dy .f32 0 n (fint .f32 n) := Dy.int (by omega)
  have h2 := h1.scale (t := 2) (by decide)
  exact Dy.quo (s := 2) (t := 0) h2 four_dy (by decide) (by omega) (by omega)
theorem mem_getD {l : List F} {x : F} (h : x ∈ l) : ∃ i, i < l.length ∧ x = l.getD i none := by
  obtain ⟨i, hi, rfl⟩ := List.mem_iff_getElem.1 h
  exact ⟨i, hi, by rw [List.getD_eq_getElem?_getD, List.getElem?_eq_getElem hi]; rfl⟩
def fx : Nat → Rat | 0 => 280 / 100 | 1 => 386 / 100 | 2 => 533 / 100 | 3 => 735 / 100 | _ => 1014 / 100
def gx : Nat → Rat | 0 => 317 / 100 | 1 => 425 / 100 | 2 => 570 / 100 | 3 => 764 / 100 | _ => 1024 / 100
structure TrF (n : Nat) (a : Nat → Nat → Rat) (M : List F) : Prop where
  m : Mat n n M
  n5 : n ≤ 5
  fe : ∀ i j, i < n → j < n → Fv (gm none M n i j)
  dia : ∀ i, i < n → 464 / 100 ≤ vm n M i i ∧ vm n M i i ≤ 95 / 10
  up : ∀ i j, i < j → j < n → Ab (vm n M i j) (176 / 100)
  lo : ∀ i j, j < i → i < n → Ab (vm n M i j) (34 / 100)
  prodU : ∀ i j, i ≤ j → j < n → Ab (rs (fun t => vm n M i t * vm n M t j) i + vm n M i j - a i j) cE
  prodL : ∀ i j, j < i → i < n → Ab (rs (fun t => vm n M i t * vm n M t j) (j + 1) - a i j) cE
theorem TrF.fv {n : Nat} {a : Nat → Nat → Rat} {M : List F} (H : TrF n a M) : ∀ x ∈ M, Fv x := fun x hx => by
  obtain ⟨i, j, hi, hj, rfl⟩ := mem_gm H.m hx
  exact H.fe i j hi hj
def prn (x : Nat → Rat) (X : Rat) (a : Nat) : Nat → Rat
  | 0 => 1
  | m + 1 => prn x X a m * (X - x (a + m))
def pX (c : Nat) : Nat → Rat
  | 0 => 1
  | j + 1 => pX c j * (3 / 2 * ((c - j : Nat) : Rat))
def mT : Nat → Rat | 0 => 4 | 1 => 16001 / 1000 | 2 => 32003 / 1000 | 3 => 42672 / 1000 | 4 => 42674 / 1000 | _ => 34142 / 1000
def sT (v : Nat) : Rat := 2 * mT v + h32 (2 * mT v)
def eT (v : Nat) : Rat := h32 (2 * mT v) + sT v / 8388608 + 1 / 10000000000000
def eB (m : Nat) : Rat := rs (fun j => eT j * pX (m - 1) j) m
def eK (k : Nat) : Rat := rs (fun j => eB (j + 1)) k
def hp (d x : Nat → Rat) (X : Rat) (i : Nat) : Nat → Rat
  | 0 => 0
  | m + 1 => hp d x X i m + d (i + m) * prn x X i m
def hB (k : Nat) : Nat → Rat
  | 0 => 4 + eK k
  | i + 1 => (hB k i + mT i) / (((k - i : Nat) : Rat) / 2)
theorem loop_go {S ρ ε : Type} {step : S → Option (LR S ε ρ)} (mk : Nat → S) {e : ε} : ∀ (m i : Nat), (∀ j, i ≤ j → j < i + m → step (mk j) = some (.next (mk (j + 1)))) → step (mk (i + m)) = some (.out e) → loopM step (mk i) = some (.inl e)
  | 0, i, _, ho => loopM_out (by rw [Nat.add_zero] at ho; exact ho)
  | m + 1, i, hs, ho => by
    rw [loopM_next (hs i (Nat.le_refl _) (by omega))]
    exact loop_go mk m (i + 1) (fun j h1 h2 => hs j (by omega) (by omega)) (by rw [show i + 1 + m = i + (m + 1) from by omega]; exact ho)
def pO : Nat → Rat | 0 => 1 | 1 => 1168 / 1000 | 2 => 1403 / 1000 | 3 => 1755 / 1000 | 4 => 2344 / 1000 | 5 => 3534 / 1000 | _ => 72 / 10
def pD : Nat → Rat | 0 => 6 | 1 => 5832 / 1000 | 2 => 5597 / 1000 | 3 => 5245 / 1000 | 4 => 4656 / 1000 | 5 => 3466 / 1000 | _ => -1
def pl : Nat → Rat | 0 => 168 / 1000 | 1 => 201 / 1000 | 2 => 251 / 1000 | 3 => 335 / 1000 | _ => 504 / 1000
structure TrP (n : Nat) (a : Nat → Nat → Rat) (M : List F) : Prop where
  m : Mat n n M
  n5 : n ≤ 6
  fe : ∀ i j, i < n → j < n → Fv (gm none M n i j)
  dia : ∀ i, i < n → pD i - cE ≤ vm n M i i ∧ vm n M i i ≤ 106 / 10
  up : ∀ i j, i < j → j < n → Ab (vm n M i j) (pO i + cE)
  lo : ∀ i j, j < i → i < n → Ab (vm n M i j) (pl j)
  prodU : ∀ i j, i ≤ j → j < n → Ab (rs (fun t => vm n M i t * vm n M t j) i + vm n M i j - a i j) cE
  prodL : ∀ i j, j < i → i < n → Ab (rs (fun t => vm n M i t * vm n M t j) (j + 1) - a i j) cE
theorem TrP.fv {n : Nat} {a : Nat → Nat → Rat} {M : List F} (H : TrP n a M) : ∀ x ∈ M, Fv x := fun x hx => by
  obtain ⟨i, j, hi, hj, rfl⟩ := mem_gm H.m hx
  exact H.fe i j hi hj
theorem dy_flip {s : Nat} {n : Int} {x : F} (h : Dy .f32 s n x) : Dy .f32 s (-n) (fneg .f32 x) := by
  obtain ⟨b, rfl, h1, h2, h3, h4⟩ := h
  have hw : (b ^^^ 2 ^ 31) % 2 ^ 31 = b % 2 ^ 31 := by
    apply Nat.eq_of_testBit_eq
    intro k
    rw [Nat.testBit_mod_two_pow, Nat.testBit_mod_two_pow, Nat.testBit_xor, Nat.testBit_two_pow]
    by_cases hk : k < 31
    · simp [hk, show ¬ 31 = k from by omega]
    · simp [hk]
  have hr : wrung FloatKind.f32.format (b ^^^ 2 ^ 31) = wrung FloatKind.f32.format b := hw
  have hs : wneg FloatKind.f32.format (b ^^^ 2 ^ 31) = !wneg FloatKind.f32.format b := by
    have t1 : ∀ w, wneg FloatKind.f32.format w = w.testBit 31 := fun w => by
      rw [Nat.testBit_eq_decide_div_mod_eq]
      show (w / 2 ^ 31 % 2 == 1) = _
      rw [Bool.beq_eq_decide_eq]
    rw [t1, t1, Nat.testBit_xor, Nat.testBit_two_pow]
    simp
  refine ⟨b ^^^ 2 ^ 31, rfl, Nat.xor_lt_two_pow h1 (by decide), by rw [hr]; exact h2, h3, ?_⟩
  unfold fval at h4 ⊢
  rw [hr, hs, sval_not, h4, Int.neg_mul]
theorem i_made_2Fi_RingMatrix_1_mk {A C : Nat} (hA : A ≤ 12) (hC : C ≤ 12) (a2 : List F) (a3 : Int) {K : Nat → Nat → F} (hK : ∀ i k : Nat, i < A → k < C → i_RingMatrix_1 (i : Int) (k : Int) a2 a3 = some (K i k)) : i_made_2Fi_RingMatrix_1 (A : Int) (C : Int) a2 a3 = some ((A : Int), (C : Int), tabM A C K) := by
  have inner : ∀ (i : Nat) (L L0 : List F), i < A → Mat A C L → Mat A C L0 → loopM (i_made_2Fi_RingMatrix_1_s2 (C : Int) a2 a3 (A : Int) (C : Int) L0 (i : Int)) (L, 0) = some (.inl (fillR K C i L)) := by
    intro i L L0 hi hL hL0
    exact (loop_run (step := i_made_2Fi_RingMatrix_1_s2 (C : Int) a2 a3 (A : Int) (C : Int) L0 (i : Int)) (fun (k : Nat) (L : List F) => (L, (k : Int))) (fun k L => sm L C i k (K i k)) (fun L => L) (fun _ L => Mat A C L) (lo := 0) (n := C) (Nat.zero_le _) (s0 := L) hL
      (fun k L2 _ hk h3 => by
        refine ⟨?_, h3.set _ _ _⟩
        show i_made_2Fi_RingMatrix_1_b2 (C : Int) a2 a3 (A : Int) (C : Int) L0 (i : Int) L2 (k : Int) = _
        unfold i_made_2Fi_RingMatrix_1_b2
        have l1 : decide ((sm L2 C i k (K i k)).length = L0.length) = true := by simp [h3.len, hL0.len]
        rw [dlt hk, bsel_true, hK i k hi hk, obind_eq, i_Matrix_set_02o_eq _ h3 hi hk, obind_eq, l1, need_true, wsucc (by omega)]
        rfl)
      (fun L2 _ => by
        show i_made_2Fi_RingMatrix_1_b2 (C : Int) a2 a3 (A : Int) (C : Int) L0 (i : Int) L2 (C : Int) = _
        unfold i_made_2Fi_RingMatrix_1_b2
        rw [dnlt, bsel_false])).1
  have e := (loop_run (step := i_made_2Fi_RingMatrix_1_s3 (A : Int) (C : Int) a2 a3 (A : Int) (C : Int) (List.replicate (A * C) (some 0))) (fun (i : Nat) (L : List F) => (L, (i : Int))) (fillR K C) (fun L => L) (fun _ L => Mat A C L) (lo := 0) (n := A) (Nat.zero_le _) (s0 := List.replicate (A * C) (some 0)) (zmat hA hC)
    (fun i L2 _ hi h3 => by
      refine ⟨?_, (fillR_spec h3 hi).1⟩
      show i_made_2Fi_RingMatrix_1_b3 (A : Int) (C : Int) a2 a3 (A : Int) (C : Int) (List.replicate (A * C) (some 0)) L2 (i : Int) = _
      unfold i_made_2Fi_RingMatrix_1_b3
      rw [dlt hi, bsel_true, inner i L2 _ hi h3 (zmat hA hC), obind_eq, osum_inl]
      unfold i_made_2Fi_RingMatrix_1_k2
      rw [wsucc (by omega)]
      rfl)
    (fun L2 _ => by
      show i_made_2Fi_RingMatrix_1_b3 (A : Int) (C : Int) a2 a3 (A : Int) (C : Int) (List.replicate (A * C) (some 0)) L2 (A : Int) = _
      unfold i_made_2Fi_RingMatrix_1_b3
      rw [dnlt, bsel_false])).1
  unfold i_made_2Fi_RingMatrix_1
  replace e : loopM (i_made_2Fi_RingMatrix_1_s3 (A : Int) (C : Int) a2 a3 (A : Int) (C : Int) (List.replicate (A * C) (some 0))) (List.replicate (A * C) (some 0), 0) = some (.inl (tabM A C K)) := e
  rw [i_newMatrix_eq hA hC, obind3_eq, e]; rfl
def horS (u : F) : Nat → F → F
  | 0, y => y
  | m + 1, y => horS u m (fop .sub .f64 (some 4607182418800017408) (fop .quo .f64 (fop .mul .f64 u y) (fint .f64 (((2 * (m + 1)) * (2 * (m + 1) + 1) : Nat) : Int))))
theorem horS_loop (u : F) : ∀ (m : Nat) (y : F), m ≤ 8 → loopM (i_sine_s3 u) (y, (m : Int)) = some (.inl (horS u m y))
  | 0, y, _ => by
    refine loopM_out ?_
    show i_sine_b3 u y ((0 : Nat) : Int) = _
    unfold i_sine_b3
    rw [decide_eq_false (by omega), bsel_false]; rfl
  | m + 1, y, hm => by
    rw [loopM_next (s' := (fop .sub .f64 (some 4607182418800017408) (fop .quo .f64 (fop .mul .f64 u y) (fint .f64 (((2 * (m + 1)) * (2 * (m + 1) + 1) : Nat) : Int))), (m : Int))), horS_loop u m _ (by omega)]
    · rfl
    · show i_sine_b3 u y ((m + 1 : Nat) : Int) = _
      unfold i_sine_b3 i_mul64
      have w1 : IntKind.i64.wrap (2 * ((m + 1 : Nat) : Int)) = ((2 * (m + 1) : Nat) : Int) := by rw [show 2 * ((m + 1 : Nat) : Int) = ((2 * (m + 1) : Nat) : Int) from by omega]; exact wn (by omega)
      have w2 : IntKind.i64.wrap (((2 * (m + 1) : Nat) : Int) * ((2 * (m + 1) + 1 : Nat) : Int)) = (((2 * (m + 1)) * (2 * (m + 1) + 1) : Nat) : Int) := by
        rw [← Int.natCast_mul]; exact wn (Nat.le_trans (Nat.mul_le_mul (show 2 * (m + 1) ≤ 18 by omega) (show 2 * (m + 1) + 1 ≤ 19 by omega)) (by decide))
      rw [decide_eq_true (by omega), bsel_true, olet_eq, obind_eq, w1, olet_eq, olet_eq, wsucc (by omega), olet_eq, w2, olet_eq, olet_eq, olet_eq, olet_eq, wi64 (by omega) (by omega), olet_eq, show ((m + 1 : Nat) : Int) - 1 = (m : Int) from by omega]
noncomputable def sin2 (w : Bool) (y : F) : Option F := i_sine_k3 w (fop .mul .f64 y (some 4618760256179416344)) (horS (fop .mul .f64 (fop .mul .f64 y (some 4618760256179416344)) (fop .mul .f64 y (some 4618760256179416344))) 8 (some 4607182418800017408))
theorem sine_k2_eq (w : Bool) (y : F) : i_sine_k2 w y = sin2 w y := by
  unfold i_sine_k2 i_mul64 sin2
  have e : ∀ u, loopM (i_sine_s3 u) (some 4607182418800017408, 8) = some (.inl (horS u 8 (some 4607182418800017408))) := fun u => horS_loop u 8 _ (Nat.le_refl _)
  rw [olet_eq, obind_eq, olet_eq, obind_eq, e, obind_eq, osum_inl]
noncomputable def sinC (a : F) : Option F := obind (i_part a) fun r1 => bsel (fle .f64 (some 4602678819172646912) r1)
  (bsel (flt .f64 (some 4598175219545276416) (fop .sub .f64 r1 (some 4602678819172646912))) (sin2 true (fop .sub .f64 (some 4602678819172646912) (fop .sub .f64 r1 (some 4602678819172646912)))) (sin2 true (fop .sub .f64 r1 (some 4602678819172646912))))
  (bsel (flt .f64 (some 4598175219545276416) r1) (sin2 false (fop .sub .f64 (some 4602678819172646912) r1)) (sin2 false r1))
theorem sine_eq (a : F) : i_sine a = sinC a := by
  unfold i_sine sinC i_sine_k1
  simp only [olet_eq, sine_k2_eq]
def qtr : Nat → F → Int → F × Int
  | 0, y, v => (y, v)
  | m + 1, y, v => if fle .f64 (some 4598175219545276416) y then qtr m (fop .sub .f64 y (some 4598175219545276416)) (v + 1) else (y, v)
theorem qtr_loop : ∀ (m : Nat) (y : F) (v : Int), 0 ≤ v → v + m ≤ 100 → fle .f64 (some 4598175219545276416) (qtr m y v).1 = false → loopM i_PhasorOf_s1 (y, v) = some (.inl (qtr m y v))
  | 0, y, v, _, _, h => by
    refine loopM_out ?_
    show i_PhasorOf_b1 y v = _
    have h : fle .f64 (some 4598175219545276416) y = false := h
    unfold i_PhasorOf_b1
    rw [h, bsel_false]; rfl
  | m + 1, y, v, h0, hv, h => by
    unfold qtr at h ⊢
    cases e : fle .f64 (some 4598175219545276416) y with
    | true =>
      rw [e, if_pos rfl] at h
      rw [if_pos rfl, loopM_next (s' := (fop .sub .f64 y (some 4598175219545276416), v + 1)), qtr_loop m _ (v + 1) (by omega) (by omega) h]
      show i_PhasorOf_b1 y v = _
      unfold i_PhasorOf_b1
      rw [e, bsel_true, olet_eq, wi64 (by omega) (by omega), olet_eq]
    | false =>
      rw [if_neg (by decide)]
      refine loopM_out ?_
      show i_PhasorOf_b1 y v = _
      unfold i_PhasorOf_b1
      rw [e, bsel_false]
noncomputable def pha1 (y : F) (v : Int) : Option (F × F) := obind (sinC (fop .sub .f64 (some 4598175219545276416) y)) fun c => obind (sinC y) fun s =>
  bsel (decide (v = 1)) (i_PhasorOf_k2 (fop .sub .f64 (some 0) s) c) (bsel (decide (v = 2)) (i_PhasorOf_k2 (fop .sub .f64 (some 0) c) (fop .sub .f64 (some 0) s)) (bsel (decide (v = 3)) (i_PhasorOf_k2 s (fop .sub .f64 (some 0) c)) (i_PhasorOf_k2 c s)))
theorem phasor_k1_eq (y : F) (v : Int) : i_PhasorOf_k1 y v = pha1 y v := by
  unfold i_PhasorOf_k1 pha1
  simp only [olet_eq, sine_eq]
noncomputable def phaC (t : F) : Option (F × F) := obind (i_isFinite64 t) fun r1 => obind (i_isFar t) fun r4 => obind (i_part t) fun f =>
  if r1 && (!r4 && !fle .f64 (some 4598175219545276416) (qtr 4 f 0).1) then pha1 (qtr 4 f 0).1 (qtr 4 f 0).2 else none
theorem phasor_eq {t : F} {z : F × F} (h : phaC t = some z) : i_PhasorOf t = some z := by
  unfold phaC at h
  obtain ⟨r1, h1, h⟩ := obind_some h
  obtain ⟨r4, h4, h⟩ := obind_some h
  obtain ⟨f, hf, h⟩ := obind_some h
  cases hc : (r1 && (!r4 && !fle .f64 (some 4598175219545276416) (qtr 4 f 0).1)) with
  | false => rw [hc, if_neg (by decide)] at h; cases h
  | true =>
    rw [hc, if_pos rfl] at h
    simp only [Bool.and_eq_true, Bool.not_eq_true'] at hc
    obtain ⟨c1, c2, c3⟩ := hc
    unfold i_PhasorOf
    rw [h1, obind_eq, c1, bsel_true, h4, obind_eq, c2, bsel_false, hf, obind_eq, qtr_loop 4 f 0 (by decide) (by decide) c3, obind_eq, osum_inl, phasor_k1_eq]
    exact h
def turn (n j : Nat) (s : Bool) : F := bif s then fneg .f64 (fop .quo .f64 (fint .f64 (j : Int)) (fint .f64 (n : Int))) else fop .quo .f64 (fint .f64 (j : Int)) (fint .f64 (n : Int))
def phTab : Nat → Bool → List (Nat × Nat × Nat)
  | 1, true => [(0, 1065353216, 2147483648)]
  | 1, false => [(0, 1065353216, 0)]
  | 2, true => [(0, 1065353216, 2147483648), (1, 3212836864, 0)]
  | 2, false => [(0, 1065353216, 0), (1, 3212836864, 0)]
  | 3, true => [(0, 1065353216, 2147483648), (1, 3204448256, 3210589143), (2, 3204448256, 1063105495), (4, 3204448256, 3210589143)]
  | 3, false => [(0, 1065353216, 0), (1, 3204448256, 1063105495), (2, 3204448256, 3210589143), (4, 3204448256, 1063105495)]
  | 4, true => [(0, 1065353216, 2147483648), (1, 0, 3212836864), (2, 3212836864, 0), (3, 0, 1065353216), (4, 1065353216, 0), (6, 3212836864, 0), (9, 0, 3212836864)]
  | 4, false => [(0, 1065353216, 0), (1, 0, 1065353216), (2, 3212836864, 0), (3, 0, 3212836864), (4, 1065353216, 0), (6, 3212836864, 0), (9, 0, 1065353216)]
  | 5, true => [(0, 1065353216, 2147483648), (1, 1050556282, 3212015729), (2, 3209632701, 3205921048), (3, 3209632701, 1058437400), (4, 1050556282, 1064532081), (6, 1050556282, 3212015729), (8, 3209632701, 1058437400), (9, 1050556282, 1064532081), (12, 3209632701, 3205921048), (16, 1050556282, 3212015729)]
  | 5, false => [(0, 1065353216, 0), (1, 1050556282, 1064532081), (2, 3209632701, 1058437400), (3, 3209632701, 3205921048), (4, 1050556282, 3212015729), (6, 1050556282, 1064532081), (8, 3209632701, 3205921048), (9, 1050556282, 3212015729), (12, 3209632701, 1058437400), (16, 1050556282, 1064532081)]
  | 6, true => [(0, 1065353216, 2147483648), (1, 1056964608, 3210589143), (2, 3204448256, 3210589143), (3, 3212836864, 0), (4, 3204448256, 1063105495), (5, 1056964608, 1063105495), (6, 1065353216, 0), (8, 3204448256, 3210589143), (9, 3212836864, 0), (10, 3204448256, 1063105495), (12, 1065353216, 0), (15, 3212836864, 0), (16, 3204448256, 1063105495), (20, 3204448256, 3210589143), (25, 1056964608, 3210589143)]
  | 6, false => [(0, 1065353216, 0), (1, 1056964608, 1063105495), (2, 3204448256, 1063105495), (3, 3212836864, 0), (4, 3204448256, 3210589143), (5, 1056964608, 3210589143), (6, 1065353216, 0), (8, 3204448256, 1063105495), (9, 3212836864, 0), (10, 3204448256, 3210589143), (12, 1065353216, 0), (15, 3212836864, 0), (16, 3204448256, 3210589143), (20, 3204448256, 1063105495), (25, 1056964608, 1063105495)]
  | 7, true => [(0, 1065353216, 2147483648), (1, 1059036423, 3209176604), (2, 3194215559, 3212416224), (3, 3211175397, 3202229762), (4, 3211175397, 1054746114), (5, 3194215559, 1064932576), (6, 1059036423, 1061692956), (8, 1059036423, 3209176604), (9, 3194215559, 3212416224), (10, 3211175397, 3202229762), (12, 3194215559, 1064932576), (15, 1059036423, 3209176604), (16, 3194215559, 3212416224), (18, 3211175397, 1054746114), (20, 1059036423, 1061692956), (24, 3211175397, 3202229762), (25, 3211175397, 1054746114), (30, 3194215559, 3212416224), (36, 1059036423, 3209176604)]
  | 7, false => [(0, 1065353216, 0), (1, 1059036423, 1061692956), (2, 3194215559, 1064932576), (3, 3211175397, 1054746114), (4, 3211175397, 3202229762), (5, 3194215559, 3212416224), (6, 1059036423, 3209176604), (8, 1059036423, 1061692956), (9, 3194215559, 1064932576), (10, 3211175397, 1054746114), (12, 3194215559, 3212416224), (15, 1059036423, 1061692956), (16, 3194215559, 1064932576), (18, 3211175397, 3202229762), (20, 1059036423, 3209176604), (24, 3211175397, 1054746114), (25, 3211175397, 3202229762), (30, 3194215559, 1064932576), (36, 1059036423, 1061692956)]
  | 8, true => [(0, 1065353216, 2147483648), (1, 1060439283, 3207922931), (2, 0, 3212836864), (3, 3207922931, 3207922931), (4, 3212836864, 0), (5, 3207922931, 1060439283), (6, 0, 1065353216), (7, 1060439283, 1060439283), (8, 1065353216, 0), (9, 1060439283, 3207922931), (10, 0, 3212836864), (12, 3212836864, 0), (14, 0, 1065353216), (15, 1060439283, 1060439283), (16, 1065353216, 0), (18, 0, 3212836864), (20, 3212836864, 0), (21, 3207922931, 1060439283), (24, 1065353216, 0), (25, 1060439283, 3207922931), (28, 3212836864, 0), (30, 0, 1065353216), (35, 3207922931, 3207922931), (36, 3212836864, 0), (42, 0, 3212836864), (49, 1060439283, 3207922931)]
  | 8, false => [(0, 1065353216, 0), (1, 1060439283, 1060439283), (2, 0, 1065353216), (3, 3207922931, 1060439283), (4, 3212836864, 0), (5, 3207922931, 3207922931), (6, 0, 3212836864), (7, 1060439283, 3207922931), (8, 1065353216, 0), (9, 1060439283, 1060439283), (10, 0, 1065353216), (12, 3212836864, 0), (14, 0, 3212836864), (15, 1060439283, 3207922931), (16, 1065353216, 0), (18, 0, 1065353216), (20, 3212836864, 0), (21, 3207922931, 3207922931), (24, 1065353216, 0), (25, 1060439283, 1060439283), (28, 3212836864, 0), (30, 0, 3212836864), (35, 3207922931, 1060439283), (36, 3212836864, 0), (42, 0, 1065353216), (49, 1060439283, 1060439283)]
  | 9, true => [(0, 1065353216, 2147483648), (1, 1061428093, 3206843835), (2, 1043452116, 3212581980), (3, 3204448256, 3210589143), (4, 3211825074, 3199147332), (5, 3211825074, 1051663684), (6, 3204448256, 1063105495), (7, 1043452116, 1065098332), (8, 1061428093, 1059360187), (9, 1065353216, 0), (10, 1061428093, 3206843835), (12, 3204448256, 3210589143), (14, 3211825074, 1051663684), (15, 3204448256, 1063105495), (16, 1043452116, 1065098332), (18, 1065353216, 0), (20, 1043452116, 3212581980), (21, 3204448256, 3210589143), (24, 3204448256, 1063105495), (25, 1043452116, 1065098332), (28, 1061428093, 3206843835), (30, 3204448256, 3210589143), (32, 3211825074, 1051663684), (35, 1061428093, 1059360187), (36, 1065353216, 0), (40, 3211825074, 3199147332), (42, 3204448256, 1063105495), (48, 3204448256, 3210589143), (49, 3211825074, 3199147332), (56, 1043452116, 3212581980), (64, 1061428093, 3206843835)]
  | 9, false => [(0, 1065353216, 0), (1, 1061428093, 1059360187), (2, 1043452116, 1065098332), (3, 3204448256, 1063105495), (4, 3211825074, 1051663684), (5, 3211825074, 3199147332), (6, 3204448256, 3210589143), (7, 1043452116, 3212581980), (8, 1061428093, 3206843835), (9, 1065353216, 0), (10, 1061428093, 1059360187), (12, 3204448256, 1063105495), (14, 3211825074, 3199147332), (15, 3204448256, 3210589143), (16, 1043452116, 3212581980), (18, 1065353216, 0), (20, 1043452116, 1065098332), (21, 3204448256, 1063105495), (24, 3204448256, 3210589143), (25, 1043452116, 3212581980), (28, 1061428093, 1059360187), (30, 3204448256, 1063105495), (32, 3211825074, 3199147332), (35, 1061428093, 3206843835), (36, 1065353216, 0), (40, 3211825074, 1051663684), (42, 3204448256, 3210589143), (48, 3204448256, 1063105495), (49, 3211825074, 1051663684), (56, 1043452116, 1065098332), (64, 1061428093, 1059360187)]
  | _, _ => []
noncomputable def phOk (n : Nat) (s : Bool) : Bool := (phTab n s).all fun r => decide (phaC (turn n r.1 s) = some (some r.2.1, some r.2.2))
theorem pht1o : phOk 1 true = true := by decide +kernel
theorem pht1 : phOk 1 false = true := by decide +kernel
theorem pht2o : phOk 2 true = true := by decide +kernel
theorem pht2 : phOk 2 false = true := by decide +kernel
theorem pht3o : phOk 3 true = true := by decide +kernel
theorem pht3 : phOk 3 false = true := by decide +kernel
theorem pht4o : phOk 4 true = true := by decide +kernel
theorem pht4 : phOk 4 false = true := by decide +kernel
theorem pht5o : phOk 5 true = true := by decide +kernel
theorem pht5 : phOk 5 false = true := by decide +kernel
theorem pht6o : phOk 6 true = true := by decide +kernel
theorem pht6 : phOk 6 false = true := by decide +kernel
theorem pht7o : phOk 7 true = true := by decide +kernel
theorem pht7 : phOk 7 false = true := by decide +kernel
theorem pht8o : phOk 8 true = true := by decide +kernel
theorem pht8 : phOk 8 false = true := by decide +kernel
theorem pht9o : phOk 9 true = true := by decide +kernel
theorem pht9 : phOk 9 false = true := by decide +kernel
def fz (w : Nat) : Int := fval .f32 w
def phAt (n : Nat) (s : Bool) (j : Nat) : Int × Int := match (phTab n s).find? (fun r => r.1 == j) with
  | some r => (fz r.2.1, fz r.2.2)
  | none => (0, 0)
def phSum (n k j : Nat) : Int × Int := (List.range n).foldl (fun s m =>
  let a := phAt n true (k * m); let b := phAt n false (j * m)
  (s.1 + (a.1 * b.1 - a.2 * b.2), s.2 + (a.1 * b.2 + a.2 * b.1))) (0, 0)
theorem ph_orth : ∀ n, n < 10 → ∀ k, k < n → ∀ j, j < n → ((phSum n k j).1 - (if k = j then (n : Int) * 2 ^ 298 else 0)).natAbs * 1000000 ≤ 2 ^ 298 * 2 ∧ (phSum n k j).2.natAbs * 1000000 ≤ 2 ^ 298 * 2 := by decide +kernel
theorem ph_mult : ∀ n, n < 10 → ∀ m, m < n → ∀ k, k < n → ∀ l, l < n →
    let a := phAt n true (k * m); let b := phAt n true (l * m); let c := phAt n true (((k + l) % n) * m)
    (a.1 * b.1 - a.2 * b.2 - c.1 * 2 ^ 149).natAbs * 10000000 ≤ 2 ^ 298 ∧ (a.1 * b.2 + a.2 * b.1 - c.2 * 2 ^ 149).natAbs * 10000000 ≤ 2 ^ 298 := by decide +kernel
theorem fz_fv {w : Nat} (h1 : w < 2 ^ 32) (h2 : wrung FloatKind.f32.format w < FloatKind.f32.format.infRung) : Fv (some w) ∧ vl (some w) = (fz w : Rat) / 2 ^ 149 := by
  have d : Dy .f32 149 (fz w) (some w) := ⟨w, rfl, h1, h2, by decide, by unfold fz; rw [show lpn .f32 - 149 = 0 from by decide]; simp⟩
  exact d.fv
theorem phOk_all : ∀ n, n < 10 → ∀ s, phOk n s = true := by
  intro n hn s
  have e : n = 0 ∨ n = 1 ∨ n = 2 ∨ n = 3 ∨ n = 4 ∨ n = 5 ∨ n = 6 ∨ n = 7 ∨ n = 8 ∨ n = 9 := by omega
  rcases e with rfl | rfl | rfl | rfl | rfl | rfl | rfl | rfl | rfl | rfl <;> cases s
  · rfl
  · rfl
  · exact pht1
  · exact pht1o
  · exact pht2
  · exact pht2o
  · exact pht3
  · exact pht3o
  · exact pht4
  · exact pht4o
  · exact pht5
  · exact pht5o
  · exact pht6
  · exact pht6o
  · exact pht7
  · exact pht7o
  · exact pht8
  · exact pht8o
  · exact pht9
  · exact pht9o
theorem ph_words : ∀ n, n < 10 → ∀ s, (phTab n s).all (fun r => decide (r.2.1 < 2 ^ 32) && (decide (r.2.2 < 2 ^ 32) && (decide (wrung FloatKind.f32.format r.2.1 < FloatKind.f32.format.infRung) && decide (wrung FloatKind.f32.format r.2.2 < FloatKind.f32.format.infRung)))) = true := by decide +kernel
theorem ph_has : ∀ n, n < 10 → ∀ s, ∀ k, k < n → ∀ m, m < n → ((phTab n s).find? (fun r => r.1 == k * m)).isSome = true := by decide +kernel
theorem ph_use {n k m : Nat} {s : Bool} (hn : n < 10) (hk : k < n) (hm : m < n) : ∃ w z, i_PhasorOf (turn n (k * m) s) = some (some w, some z) ∧ Fv (some w) ∧ Fv (some z) ∧ vl (some w) = ((phAt n s (k * m)).1 : Rat) / 2 ^ 149 ∧ vl (some z) = ((phAt n s (k * m)).2 : Rat) / 2 ^ 149 := by
  have h := ph_has n hn s k hk m hm
  cases hf : (phTab n s).find? (fun r => r.1 == k * m) with
  | none => rw [hf] at h; cases h
  | some r =>
    have hr := List.mem_of_find?_eq_some hf
    have hj : r.1 = k * m := by simpa using List.find?_some hf
    have ok := List.all_eq_true.1 (phOk_all n hn s) r hr
    have wd := List.all_eq_true.1 (ph_words n hn s) r hr
    simp only [Bool.and_eq_true, decide_eq_true_eq] at wd
    obtain ⟨w1, w2, w3, w4⟩ := wd
    have ok := of_decide_eq_true ok
    rw [hj] at ok
    obtain ⟨a1, a2⟩ := fz_fv w1 w3
    obtain ⟨b1, b2⟩ := fz_fv w2 w4
    refine ⟨r.2.1, r.2.2, phasor_eq ok, a1, b1, ?_, ?_⟩
    · rw [a2]; unfold phAt; rw [hf]
    · rw [b2]; unfold phAt; rw [hf]
theorem fv_neg {x : F} (h : Fv x) : Fv (fneg .f32 x) ∧ vl (fneg .f32 x) = -vl x := by
  obtain ⟨n, d, e⟩ := h.rv
  have r : Rv .f32 (-vl x) (fneg .f32 x) := ⟨-n, dy_flip d, by rw [Rat.intCast_neg, e]; grind⟩
  exact ⟨r.fv, r.vl⟩
theorem rs_abw {f g : Nat → Rat} : ∀ {n : Nat}, (∀ j, j < n → Ab (f j) (g j)) → Ab (rs f n) (rs g n)
  | 0, _ => by unfold rs; exact ⟨by simp, by simp⟩
  | n + 1, h => by
    unfold rs
    exact (rs_abw (n := n) fun j hj => h j (by omega)).add (h n (by omega))
theorem rs_rot (f : Nat → Rat) {n k : Nat} (hk : k < n) : rs (fun l => f ((k + l) % n)) n = rs f n := by
  obtain ⟨d, rfl⟩ : ∃ d, n = k + d := ⟨n - k, by omega⟩
  rw [rs_split f k d]
  have e := rs_split (fun l => f ((k + l) % (k + d))) d k
  rw [Nat.add_comm d k] at e
  rw [e, rs_congr (n := d) (g := fun j => f (k + j)) (fun j hj => by show f ((k + j) % (k + d)) = _; rw [Nat.mod_eq_of_lt (by omega)]), rs_congr (n := k) (g := f) (fun j hj => by show f ((k + (d + j)) % (k + d)) = _; rw [show k + (d + j) = j + (k + d) from by omega, Nat.add_mod_right, Nat.mod_eq_of_lt (by omega)])]
  grind
theorem rot_idx {k l n : Nat} (hk : k < n) (hl : l < n) : ((k + l) % n + n - k) % n = l := by
  by_cases h : k + l < n
  · rw [Nat.mod_eq_of_lt h, show k + l + n - k = l + n from by omega, Nat.add_mod_right, Nat.mod_eq_of_lt hl]
  · rw [show k + l = (k + l - n) + n from by omega, Nat.add_mod_right, Nat.mod_eq_of_lt (show k + l - n < n by omega), show k + l - n + n - k = l from by omega, Nat.mod_eq_of_lt hl]
def cxM (z w : Rat × Rat) : Rat × Rat := (z.1 * w.1 - z.2 * w.2, z.1 * w.2 + z.2 * w.1)
def cxD (z w : Rat × Rat) : Rat × Rat := (z.1 - w.1, z.2 - w.2)
def cxB (z : Rat × Rat) (e : Rat) : Prop := Ab z.1 e ∧ Ab z.2 e
def cxS (f : Nat → Rat × Rat) (n : Nat) : Rat × Rat := (rs (fun j => (f j).1) n, rs (fun j => (f j).2) n)
theorem cxB.mono {z : Rat × Rat} {e f : Rat} (h : cxB z e) (hf : e ≤ f) : cxB z f := ⟨h.1.mono hf, h.2.mono hf⟩
theorem cxB.mul {z w : Rat × Rat} {e f : Rat} (h : cxB z e) (g : cxB w f) : cxB (cxM z w) (2 * (e * f)) :=
  ⟨((h.1.mul g.1).sub (h.2.mul g.2)).mono (by grind), ((h.1.mul g.2).add (h.2.mul g.1)).mono (by grind)⟩
theorem cxS_congr {f g : Nat → Rat × Rat} {n : Nat} (h : ∀ j, j < n → f j = g j) : cxS f n = cxS g n := by
  unfold cxS; rw [rs_congr fun j hj => by rw [h j hj], rs_congr (f := fun j => (f j).2) fun j hj => by rw [h j hj]]
theorem cxM_S (f : Nat → Rat × Rat) (w : Rat × Rat) (n : Nat) : cxM (cxS f n) w = cxS (fun j => cxM (f j) w) n := by
  unfold cxM cxS
  refine Prod.ext ?_ ?_
  · show rs _ n * w.1 - rs _ n * w.2 = rs (fun j => (f j).1 * w.1 - (f j).2 * w.2) n
    rw [rs_sub, rs_congr (f := fun j => (f j).1 * w.1) (g := fun j => w.1 * (f j).1) fun j _ => by grind, rs_congr (f := fun j => (f j).2 * w.2) (g := fun j => w.2 * (f j).2) fun j _ => by grind, rs_mul, rs_mul]; grind
  · show rs _ n * w.2 + rs _ n * w.1 = rs (fun j => (f j).1 * w.2 + (f j).2 * w.1) n
    rw [rs_add, rs_congr (f := fun j => (f j).1 * w.2) (g := fun j => w.2 * (f j).1) fun j _ => by grind, rs_congr (f := fun j => (f j).2 * w.1) (g := fun j => w.1 * (f j).2) fun j _ => by grind, rs_mul, rs_mul]; grind
theorem cxM_comm (z w : Rat × Rat) : cxM z w = cxM w z := by unfold cxM; refine Prod.ext ?_ ?_ <;> simp only [] <;> grind
theorem cxM_assoc (z w v : Rat × Rat) : cxM (cxM z w) v = cxM z (cxM w v) := by unfold cxM; refine Prod.ext ?_ ?_ <;> simp only [] <;> grind
theorem cxM_Sr (f : Nat → Rat × Rat) (w : Rat × Rat) (n : Nat) : cxM w (cxS f n) = cxS (fun j => cxM w (f j)) n := by
  rw [cxM_comm, cxM_S]; exact cxS_congr fun j _ => cxM_comm _ _
theorem cxM_D (z w v : Rat × Rat) : cxD (cxM z w) (cxM z v) = cxM z (cxD w v) := by unfold cxM cxD; refine Prod.ext ?_ ?_ <;> simp only [] <;> grind
theorem cxM_Dl (z w v : Rat × Rat) : cxD (cxM z v) (cxM w v) = cxM (cxD z w) v := by unfold cxM cxD; refine Prod.ext ?_ ?_ <;> simp only [] <;> grind
theorem cxS_D (f g : Nat → Rat × Rat) (n : Nat) : cxD (cxS f n) (cxS g n) = cxS (fun j => cxD (f j) (g j)) n := by
  unfold cxD cxS; refine Prod.ext ?_ ?_ <;> simp only [] <;> rw [rs_sub]
theorem cxS_comm (f : Nat → Nat → Rat × Rat) (m n : Nat) : cxS (fun j => cxS (fun i => f i j) m) n = cxS (fun i => cxS (fun j => f i j) n) m := by
  unfold cxS; refine Prod.ext ?_ ?_ <;> simp only [] <;> rw [rs_comm]
theorem cxS_B {f : Nat → Rat × Rat} {n : Nat} {g : Nat → Rat} (h : ∀ j, j < n → cxB (f j) (g j)) : cxB (cxS f n) (rs g n) :=
  ⟨rs_abw fun j hj => (h j hj).1, rs_abw fun j hj => (h j hj).2⟩
theorem cxS_Bn {f : Nat → Rat × Rat} {n : Nat} {e : Rat} (h : ∀ j, j < n → cxB (f j) e) : cxB (cxS f n) ((n : Rat) * e) :=
  ⟨rs_ab fun j hj => (h j hj).1, rs_ab fun j hj => (h j hj).2⟩
theorem cxS_delta (f : Nat → Rat × Rat) {k n : Nat} (hk : k < n) (c : Rat) : cxS (fun j => cxM (f j) (if k = j then c else 0, 0)) n = (c * (f k).1, c * (f k).2) := by
  have e : ∀ g : Nat → Rat, rs (fun j => g j * (if k = j then c else 0)) n = c * g k := by
    intro g
    have := rs_delta (fun j => c * g j) k n
    rw [if_pos hk] at this
    rw [← this]
    refine rs_congr fun j _ => ?_
    by_cases h : j = k
    · rw [if_pos h, if_pos h.symm]; grind
    · rw [if_neg h, if_neg fun h' => h h'.symm]; grind
  unfold cxM cxS
  refine Prod.ext ?_ ?_
  · show rs (fun j => (f j).1 * (if k = j then c else 0) - (f j).2 * 0) n = _
    rw [rs_congr (g := fun j => (f j).1 * (if k = j then c else 0)) fun j _ => by grind]; exact e fun j => (f j).1
  · show rs (fun j => (f j).1 * 0 + (f j).2 * (if k = j then c else 0)) n = _
    rw [rs_congr (g := fun j => (f j).2 * (if k = j then c else 0)) fun j _ => by grind]; exact e fun j => (f j).2
theorem back_cx {n j : Nat} {v : Nat → Rat × Rat} {p q : Nat → Nat → Rat × Rat} {B e : Rat} (hj : j < n) (hv : ∀ k, k < n → cxB (v k) B)
    (ho : ∀ k, k < n → cxB (cxD (cxS (fun m => cxM (p k m) (q j m)) n) (if j = k then (n : Rat) else 0, 0)) e) :
    cxB (cxD (cxS (fun m => cxM (cxS (fun k => cxM (v k) (p k m)) n) (q j m)) n) ((n : Rat) * (v j).1, (n : Rat) * (v j).2)) ((n : Rat) * (2 * (B * e))) := by
  rw [cxS_congr (g := fun m => cxS (fun k => cxM (v k) (cxM (p k m) (q j m))) n) fun m _ => by rw [cxM_S]; exact cxS_congr fun k _ => cxM_assoc _ _ _]
  rw [cxS_comm (fun k m => cxM (v k) (cxM (p k m) (q j m))), cxS_congr (g := fun k => cxM (v k) (cxS (fun m => cxM (p k m) (q j m)) n)) fun k _ => (cxM_Sr _ _ _).symm, ← cxS_delta v hj (n : Rat), cxS_D]
  refine cxS_Bn fun k hk => ?_
  show cxB (cxD (cxM _ _) (cxM _ _)) _
  rw [cxM_D]
  exact cxB.mul (hv k hk) (ho k hk)
theorem conv_cx {n m : Nat} {r v : Nat → Rat × Rat} {p : Nat → Nat → Rat × Rat} {g : Nat → Rat} {B e : Rat} (hv : ∀ k, k < n → cxB (v k) B) (hr : ∀ l, l < n → cxB (r l) (g l))
    (hp : ∀ k, k < n → ∀ l, l < n → cxB (cxD (p ((k + l) % n) m) (cxM (p k m) (p l m))) e) :
    cxB (cxD (cxS (fun i => cxM (cxS (fun k => cxM (r ((i + n - k) % n)) (v k)) n) (p i m)) n) (cxM (cxS (fun l => cxM (r l) (p l m)) n) (cxS (fun k => cxM (v k) (p k m)) n))) ((n : Rat) * (rs (fun l => 2 * (2 * (g l * B) * e)) n)) := by
  have e1 : cxS (fun i => cxM (cxS (fun k => cxM (r ((i + n - k) % n)) (v k)) n) (p i m)) n = cxS (fun k => cxS (fun l => cxM (cxM (r l) (v k)) (p ((k + l) % n) m)) n) n := by
    rw [cxS_congr (g := fun i => cxS (fun k => cxM (cxM (r ((i + n - k) % n)) (v k)) (p i m)) n) fun i _ => cxM_S _ _ _, cxS_comm (fun k i => cxM (cxM (r ((i + n - k) % n)) (v k)) (p i m))]
    refine cxS_congr fun k hk => ?_
    unfold cxS
    refine Prod.ext ?_ ?_
    · show rs (fun i => (cxM (cxM (r ((i + n - k) % n)) (v k)) (p i m)).1) n = _
      rw [← rs_rot (fun i => (cxM (cxM (r ((i + n - k) % n)) (v k)) (p i m)).1) hk]
      refine rs_congr fun l hl => ?_
      show (cxM (cxM (r (((k + l) % n + n - k) % n)) (v k)) (p ((k + l) % n) m)).1 = _
      rw [show ((k + l) % n + n - k) % n = l from rot_idx hk hl]
    · show rs (fun i => (cxM (cxM (r ((i + n - k) % n)) (v k)) (p i m)).2) n = _
      rw [← rs_rot (fun i => (cxM (cxM (r ((i + n - k) % n)) (v k)) (p i m)).2) hk]
      refine rs_congr fun l hl => ?_
      show (cxM (cxM (r (((k + l) % n + n - k) % n)) (v k)) (p ((k + l) % n) m)).2 = _
      rw [show ((k + l) % n + n - k) % n = l from rot_idx hk hl]
  have e2 : cxM (cxS (fun l => cxM (r l) (p l m)) n) (cxS (fun k => cxM (v k) (p k m)) n) = cxS (fun k => cxS (fun l => cxM (cxM (r l) (v k)) (cxM (p k m) (p l m))) n) n := by
    rw [cxM_Sr]
    refine cxS_congr fun k _ => ?_
    rw [cxM_S]
    refine cxS_congr fun l _ => ?_
    unfold cxM; refine Prod.ext ?_ ?_ <;> simp only [] <;> grind
  rw [e1, e2, cxS_D]
  refine cxS_Bn fun k hk => ?_
  show cxB (cxD (cxS _ _) (cxS _ _)) _
  rw [cxS_D]
  refine cxS_B fun l hl => ?_
  show cxB (cxD (cxM _ _) (cxM _ _)) _
  rw [cxM_D]
  exact cxB.mul (cxB.mul (hr l hl) (hv k hk)) (hp k hk l hl)
def CFv (z : F × F) : Prop := Fv z.1 ∧ Fv z.2
noncomputable def cxv (z : F × F) : Rat × Rat := (vl z.1, vl z.2)
theorem cxB.abt {z w : Rat × Rat} {e f : Rat} (h : cxB (cxD z w) e) (g : cxB w f) : cxB z (f + e) :=
  ⟨by have := h.1.1; have := h.1.2; have := g.1.1; have := g.1.2; unfold cxD at *; simp only [] at *; exact ⟨by grind, by grind⟩,
   by have := h.2.1; have := h.2.2; have := g.2.1; have := g.2.2; unfold cxD at *; simp only [] at *; exact ⟨by grind, by grind⟩⟩
theorem cxB.tri {z w v : Rat × Rat} {e f : Rat} (h : cxB (cxD z w) e) (g : cxB (cxD w v) f) : cxB (cxD z v) (e + f) :=
  ⟨by have := h.1.1; have := h.1.2; have := g.1.1; have := g.1.2; unfold cxD at *; simp only [] at *; exact ⟨by grind, by grind⟩,
   by have := h.2.1; have := h.2.2; have := g.2.1; have := g.2.2; unfold cxD at *; simp only [] at *; exact ⟨by grind, by grind⟩⟩
theorem cxB.sum {z w v u : Rat × Rat} {e f : Rat} (h : cxB (cxD z w) e) (g : cxB (cxD v u) f) : cxB (cxD (z.1 + v.1, z.2 + v.2) (w.1 + u.1, w.2 + u.2)) (e + f) :=
  ⟨by have := h.1.1; have := h.1.2; have := g.1.1; have := g.1.2; unfold cxD at *; simp only [] at *; exact ⟨by grind, by grind⟩,
   by have := h.2.1; have := h.2.2; have := g.2.1; have := g.2.2; unfold cxD at *; simp only [] at *; exact ⟨by grind, by grind⟩⟩
theorem mul_cx {x y : F × F} {P Q : Rat} (hx : CFv x) (hy : CFv y) (p1 : Ab (vl x.1 * vl y.1) P) (p2 : Ab (vl x.1 * vl y.2) P) (q1 : Ab (vl x.2 * vl y.2) Q) (q2 : Ab (vl x.2 * vl y.1) Q) (hP : P ≤ 10000) (hQ : Q ≤ 10000) :
    ∃ z : F × F, i_MulComplex x.1 x.2 y.1 y.2 = some (z.1, z.2) ∧ CFv z ∧ cxB (cxD (cxv z) (cxM (cxv x) (cxv y))) ((P + Q) / 8388608 + 4 / 1000000000) := by
  obtain ⟨ha, hb⟩ := hx
  obtain ⟨hc, hd⟩ := hy
  have P0 := p1.nonneg
  have Q0 := q1.nonneg
  obtain ⟨m1, r1, e1⟩ := ha.rv.widen.mul hc.rv.widen p1 (big60 (by grind))
  obtain ⟨m2, r2, e2⟩ := hb.rv.widen.mul hd.rv.widen q1 (big60 (by grind))
  obtain ⟨m3, r3, e3⟩ := ha.rv.widen.mul hd.rv.widen p2 (big60 (by grind))
  obtain ⟨m4, r4, e4⟩ := hb.rv.widen.mul hc.rv.widen q2 (big60 (by grind))
  have k1 := e1.mono (e64_le (M := P) (by grind) P0)
  have k2 := e2.mono (e64_le (M := Q) (by grind) Q0)
  have k3 := e3.mono (e64_le (M := P) (by grind) P0)
  have k4 := e4.mono (e64_le (M := Q) (by grind) Q0)
  have s1 : Ab (m1 - m2) (P + Q + 2 / 1000000000) := ⟨by have := k1.1; have := k2.2; have := p1.1; have := q1.2; grind, by have := k1.2; have := k2.1; have := p1.2; have := q1.1; grind⟩
  have s2 : Ab (m3 + m4) (P + Q + 2 / 1000000000) := ⟨by have := k3.1; have := k4.1; have := p2.1; have := q2.1; grind, by have := k3.2; have := k4.2; have := p2.2; have := q2.2; grind⟩
  obtain ⟨d1, t1, f1⟩ := r1.sub r2 s1 (big60 (by grind))
  obtain ⟨d2, t2, f2⟩ := r3.add r4 s2 (big60 (by grind))
  have g1 := f1.mono (e64_le (M := P + Q + 2 / 1000000000) (by grind) (by grind))
  have g2 := f2.mono (e64_le (M := P + Q + 2 / 1000000000) (by grind) (by grind))
  have u1 : Ab d1 (P + Q + 3 / 1000000000) := ⟨by have := g1.1; have := s1.1; grind, by have := g1.2; have := s1.2; grind⟩
  have u2 : Ab d2 (P + Q + 3 / 1000000000) := ⟨by have := g2.1; have := s2.1; grind, by have := g2.2; have := s2.2; grind⟩
  obtain ⟨x', w1, n1, v1, k1'⟩ := t1.narrow u1 (big60 (by grind))
  obtain ⟨y', w2, n2, v2, k2'⟩ := t2.narrow u2 (big60 (by grind))
  have l1 := k1'.mono (er_le _)
  have l2 := k2'.mono (er_le _)
  unfold e32 at l1 l2
  refine ⟨(w1, w2), ?_, ⟨v1.fv, v2.fv⟩, ?_, ?_⟩
  · unfold i_MulComplex i_longProduct i_mul64
    simp only [olet_eq, obind_eq, obind2_eq]
    rw [n1, obind_eq, n2, obind_eq]
  · show Ab (vl w1 - (vl x.1 * vl y.1 - vl x.2 * vl y.2)) _
    rw [v1.vl]
    have := ((l1.add g1).add k1).sub k2
    exact ⟨by have := this.1; grind, by have := this.2; grind⟩
  · show Ab (vl w2 - (vl x.1 * vl y.2 + vl x.2 * vl y.1)) _
    rw [v2.vl]
    have := ((l2.add g2).add k3).add k4
    exact ⟨by have := this.1; grind, by have := this.2; grind⟩
theorem add_cx {x y : F × F} {M : Rat} (hx : CFv x) (hy : CFv y) (h : cxB (vl x.1 + vl y.1, vl x.2 + vl y.2) M) (hM : M ≤ 1000000) :
    i_addComplex x.1 x.2 y.1 y.2 = some (fop .add .f32 x.1 y.1, fop .add .f32 x.2 y.2) ∧ CFv (fop .add .f32 x.1 y.1, fop .add .f32 x.2 y.2) ∧
    cxB (cxD (cxv (fop .add .f32 x.1 y.1, fop .add .f32 x.2 y.2)) (vl x.1 + vl y.1, vl x.2 + vl y.2)) (h32 M) := by
  obtain ⟨a1, a2⟩ := fv_addh hx.1 hy.1 h.1 (by grind)
  obtain ⟨b1, b2⟩ := fv_addh hx.2 hy.2 h.2 (by grind)
  exact ⟨rfl, ⟨a1, b1⟩, a2, b2⟩
noncomputable def csum (f g : Nat → F × F) : Nat → Option (F × F)
  | 0 => some (some 0, some 0)
  | k + 1 => obind (csum f g k) fun s => obind2 (i_MulComplex (f k).1 (f k).2 (g k).1 (g k).2) fun a b => i_addComplex s.1 s.2 a b
def sE (n G : Rat) : Rat := G / 8388608 + n * ((G + 1 / 10) / 16777216 + 5 / 1000000000)
theorem csum_near {f g : Nat → F × F} {n : Nat} {P Q : Nat → Rat} {G : Rat} (hn : n ≤ 9) (hG : G ≤ 1000) (hf : ∀ k, k < n → CFv (f k) ∧ CFv (g k))
    (hp : ∀ k, k < n → Ab (vl (f k).1 * vl (g k).1) (P k) ∧ Ab (vl (f k).1 * vl (g k).2) (P k) ∧ Ab (vl (f k).2 * vl (g k).2) (Q k) ∧ Ab (vl (f k).2 * vl (g k).1) (Q k) ∧ P k ≤ 10000 ∧ Q k ≤ 10000)
    (hs : ∀ k, k ≤ n → rs (fun j => P j + Q j) k ≤ G) : ∀ k, k ≤ n →
    ∃ s, csum f g k = some s ∧ CFv s ∧ cxB (cxD (cxv s) (cxS (fun j => cxM (cxv (f j)) (cxv (g j))) k)) (rs (fun j => P j + Q j) k / 8388608 + (k : Rat) * ((G + 1 / 10) / 16777216 + 5 / 1000000000))
  | 0, _ => by
    refine ⟨(some 0, some 0), rfl, ⟨fv_zero.1, fv_zero.1⟩, ?_⟩
    unfold cxD cxS cxv cxB
    rw [fv_zero.2]
    simp only [rs]
    exact ⟨⟨by simp; grind, by simp; grind⟩, ⟨by simp; grind, by simp; grind⟩⟩
  | k + 1, hk => by
    obtain ⟨s, e, fs, hs'⟩ := csum_near hn hG hf hp hs k (by omega)
    obtain ⟨hx, hy⟩ := hf k (by omega)
    obtain ⟨p1, p2, q1, q2, P1, Q1⟩ := hp k (by omega)
    obtain ⟨z, ez, fz', hz⟩ := mul_cx hx hy p1 p2 q1 q2 P1 Q1
    have G1 := hs (k + 1) hk
    have G0 := hs k (by omega)
    have Gn : rs (fun j => P j + Q j) (k + 1) = rs (fun j => P j + Q j) k + (P k + Q k) := rfl
    have hPk := p1.nonneg
    have hQk := q1.nonneg
    have hS : cxB (cxS (fun j => cxM (cxv (f j)) (cxv (g j))) (k + 1)) G := by
      refine (cxS_B (g := fun j => P j + Q j) fun j hj => ?_).mono G1
      obtain ⟨a1, a2, a3, a4, _⟩ := hp j (by omega)
      exact ⟨a1.sub a3, a2.add a4⟩
    have kr : (k : Rat) ≤ 9 := by exact_mod_cast (show k ≤ 9 by omega)
    have k0 : (0 : Rat) ≤ (k : Rat) := by exact_mod_cast Nat.zero_le k
    have S0 : 0 ≤ rs (fun j => P j + Q j) k := (rs_abw (f := fun _ => 0) (g := fun j => P j + Q j) fun j hj => by
      have a := (hp j (by omega)).1.nonneg
      have b := (hp j (by omega)).2.2.1.nonneg
      exact ⟨by grind, by grind⟩).nonneg
    have hc0 : 0 ≤ (G + 1 / 10) / 16777216 + 5 / 1000000000 := by grind
    have hc := Rat.mul_le_mul_of_nonneg_right kr hc0
    have ck := Rat.mul_nonneg k0 hc0
    have ek : ((k + 1 : Nat) : Rat) = (k : Rat) + 1 := by push_cast; rfl
    have hsum : cxB (cxD (vl s.1 + vl z.1, vl s.2 + vl z.2) (cxS (fun j => cxM (cxv (f j)) (cxv (g j))) (k + 1))) (rs (fun j => P j + Q j) (k + 1) / 8388608 + (k : Rat) * ((G + 1 / 10) / 16777216 + 5 / 1000000000) + 4 / 1000000000) := by
      exact (cxB.sum hs' hz).mono (by
        rw [Gn]
        generalize (k : Rat) * ((G + 1 / 10) / 16777216 + 5 / 1000000000) = W at *
        generalize rs (fun j => P j + Q j) k = T at *
        grind)
    have hM : cxB (vl s.1 + vl z.1, vl s.2 + vl z.2) (G + 1 / 10) := (cxB.abt hsum hS).mono (by
      generalize (k : Rat) * ((G + 1 / 10) / 16777216 + 5 / 1000000000) = W at *
      grind)
    obtain ⟨c1, c2, c3⟩ := add_cx (x := s) (y := z) fs fz' hM (by grind)
    refine ⟨_, ?_, c2, (cxB.tri c3 hsum).mono ?_⟩
    · show obind (csum f g k) _ = _
      rw [e, obind_eq, ez, obind2_eq, c1]
    · rw [ek]
      unfold h32
      grind
noncomputable def cval (f g : Nat → F × F) (k : Nat) : F × F := (csum f g k).getD (none, none)
noncomputable def pw (n : Nat) (s : Bool) (j : Nat) : F × F := (i_PhasorOf (turn n j s)).getD (none, none)
def pcx (n : Nat) (s : Bool) (j : Nat) : Rat × Rat := (((phAt n s j).1 : Rat) / 2 ^ 149, ((phAt n s j).2 : Rat) / 2 ^ 149)
theorem pw_use {n k m : Nat} {s : Bool} (hn : n < 10) (hk : k < n) (hm : m < n) : i_PhasorOf (turn n (k * m) s) = some (pw n s (k * m)) ∧ CFv (pw n s (k * m)) ∧ cxv (pw n s (k * m)) = pcx n s (k * m) := by
  obtain ⟨w, z, e, f1, f2, v1, v2⟩ := ph_use (s := s) hn hk hm
  have hp : pw n s (k * m) = (some w, some z) := by unfold pw; rw [e]; rfl
  rw [hp]
  refine ⟨e, ⟨f1, f2⟩, ?_⟩
  unfold cxv pcx
  rw [← v1, ← v2]
theorem ph_one : ∀ n, n < 10 → ∀ s, ∀ k, k < n → ∀ m, m < n → (phAt n s (k * m)).1.natAbs ≤ 2 ^ 149 ∧ (phAt n s (k * m)).2.natAbs ≤ 2 ^ 149 := by decide +kernel
theorem ab_div {a : Int} {d e : Nat} (hd : 0 < d) {c : Rat} (h : a.natAbs ≤ e) (hc : (e : Rat) ≤ c * d) : Ab ((a : Rat) / (d : Rat)) c := by
  have hd' : (0 : Rat) < (d : Rat) := by exact_mod_cast hd
  have e1 : (a : Rat) / (d : Rat) * d = a := div_mul_pos hd'
  have l1 : (a : Rat) ≤ ((e : Int) : Rat) := by exact_mod_cast (show a ≤ (e : Int) by omega)
  have l2 : ((-(e : Int) : Int) : Rat) ≤ (a : Rat) := by exact_mod_cast (show -(e : Int) ≤ a by omega)
  have l3 : ((e : Int) : Rat) = (e : Rat) := rfl
  rw [Rat.intCast_neg] at l2
  rw [l3] at l1 l2
  generalize (a : Rat) / (d : Rat) = x at *
  constructor
  · exact Rat.le_of_mul_le_mul_right (c := (d : Rat)) (by rw [e1]; grind) hd'
  · exact Rat.le_of_mul_le_mul_right (c := (d : Rat)) (by rw [e1]; grind) hd'
theorem pcx_one {n k m : Nat} {s : Bool} (hn : n < 10) (hk : k < n) (hm : m < n) : cxB (pcx n s (k * m)) 1 := by
  obtain ⟨h1, h2⟩ := ph_one n hn s k hk m hm
  have c : ((2 ^ 149 : Nat) : Rat) = 2 ^ 149 := by push_cast; rfl
  unfold pcx
  rw [← c]
  exact ⟨ab_div (Nat.pow_pos (by decide)) h1 (by grind), ab_div (Nat.pow_pos (by decide)) h2 (by grind)⟩
theorem csum_cval {f g : Nat → F × F} {k : Nat} (h : ∃ s, csum f g k = some s) : csum f g k = some (cval f g k) := by
  obtain ⟨s, h⟩ := h; unfold cval; rw [h]; rfl
theorem csum_succ {f g : Nat → F × F} {k : Nat} (h : ∃ s, csum f g k = some s) (h' : ∃ s, csum f g (k + 1) = some s) :
    ∃ a b, i_MulComplex (f k).1 (f k).2 (g k).1 (g k).2 = some (a, b) ∧ i_addComplex (cval f g k).1 (cval f g k).2 a b = some ((cval f g (k + 1)).1, (cval f g (k + 1)).2) := by
  have e1 := csum_cval h
  have e2 := csum_cval h'
  have e2 : (obind (csum f g k) fun s => obind2 (i_MulComplex (f k).1 (f k).2 (g k).1 (g k).2) fun a b => i_addComplex s.1 s.2 a b) = some (cval f g (k + 1)) := e2
  rw [e1, obind_eq] at e2
  cases hm : i_MulComplex (f k).1 (f k).2 (g k).1 (g k).2 with
  | none => rw [hm] at e2; cases e2
  | some p => rw [hm] at e2; exact ⟨p.1, p.2, rfl, e2⟩
theorem trans_in {xs : List (F × F)} {n m : Nat} {s : Bool} (hl : xs.length = n) (hn : n < 10) (hm : m < n)
    (hc : ∀ k, k ≤ n → ∃ z, csum (fun k => xs.getD k (none, none)) (fun k => pw n s (k * m)) k = some z) :
    loopM (i_transformed_s6 xs s (fint .f64 (n : Int)) (m : Int)) (some 0, some 0, 0) = some (.inl ((cval (fun k => xs.getD k (none, none)) (fun k => pw n s (k * m)) n).1, (cval (fun k => xs.getD k (none, none)) (fun k => pw n s (k * m)) n).2)) := by
  refine loop_go (step := i_transformed_s6 xs s (fint .f64 (n : Int)) (m : Int)) (fun j : Nat => ((cval (fun k => xs.getD k (none, none)) (fun k => pw n s (k * m)) j).1, (cval (fun k => xs.getD k (none, none)) (fun k => pw n s (k * m)) j).2, (j : Int))) n 0 (fun j _ hj => ?_) ?_
  · have hj : j < n := by omega
    obtain ⟨a, b, e1, e2⟩ := csum_succ (hc j (by omega)) (hc (j + 1) (by omega))
    show i_transformed_b6 xs s (fint .f64 (n : Int)) (m : Int) _ _ (j : Int) = _
    unfold i_transformed_b6
    have hjm : j * m ≤ 81 := Nat.le_trans (Nat.mul_le_mul (show j ≤ 9 by omega) (show m ≤ 9 by omega)) (by decide)
    rw [hl, dlt hj, bsel_true, at?_n (none, none) (by omega), obind_eq, ← Int.natCast_mul, wn (by omega), olet_eq, olet_eq, olet_eq]
    have k5 : ∀ y, i_PhasorOf y = some (pw n s (j * m)) → i_transformed_k5 (cval (fun k => xs.getD k (none, none)) (fun k => pw n s (k * m)) j).1 (cval (fun k => xs.getD k (none, none)) (fun k => pw n s (k * m)) j).2 (j : Int) (xs.getD j (none, none)) y = some (.next ((cval (fun k => xs.getD k (none, none)) (fun k => pw n s (k * m)) (j + 1)).1, (cval (fun k => xs.getD k (none, none)) (fun k => pw n s (k * m)) (j + 1)).2, ((j + 1 : Nat) : Int))) := by
      intro y hy
      unfold i_transformed_k5
      rw [hy, obind2_eq, e1, obind2_eq, e2, obind2_eq, wsucc (by omega), olet_eq]
    have ph := (pw_use (s := s) hn hj hm).1
    unfold turn at ph
    cases s with
    | true => rw [bsel_true, olet_eq]; exact k5 _ ph
    | false => rw [bsel_false]; exact k5 _ ph
  · show i_transformed_b6 xs s (fint .f64 (n : Int)) (m : Int) _ _ ((0 + n : Nat) : Int) = _
    unfold i_transformed_b6
    rw [hl, Nat.zero_add, dnlt, bsel_false]
theorem trans_eq {xs : List (F × F)} {n : Nat} {s : Bool} (hl : xs.length = n) (hn : n < 10)
    (hc : ∀ m, m < n → ∀ k, k ≤ n → ∃ z, csum (fun k => xs.getD k (none, none)) (fun k => pw n s (k * m)) k = some z) :
    i_transformed xs s = some ((List.range n).map fun m => cval (fun k => xs.getD k (none, none)) (fun k => pw n s (k * m)) n) := by
  unfold i_transformed
  rw [olet_eq, hl]
  have e : loopM (i_transformed_s7 xs s (fint .f64 (n : Int))) ([], 0) = some (.inl ((List.range n).map fun m => cval (fun k => xs.getD k (none, none)) (fun k => pw n s (k * m)) n)) := by
    refine loop_go (step := i_transformed_s7 xs s (fint .f64 (n : Int))) (fun j : Nat => ((List.range j).map fun m => cval (fun k => xs.getD k (none, none)) (fun k => pw n s (k * m)) n, (j : Int))) n 0 (fun j _ hj => ?_) ?_
    · have hj : j < n := by omega
      show i_transformed_b7 xs s (fint .f64 (n : Int)) _ (j : Int) = _
      unfold i_transformed_b7
      rw [hl, dlt hj, bsel_true, trans_in hl hn hj (hc j hj), obind_eq, osum_inl]
      unfold i_transformed_k6
      rw [show apok 8 ((List.range j).map fun m => cval (fun k => xs.getD k (none, none)) (fun k => pw n s (k * m)) n).length 1 = true from by simp [apok]; omega, need_true, wsucc (by omega), olet_eq, List.range_succ, List.map_append]
      rfl
    · show i_transformed_b7 xs s (fint .f64 (n : Int)) _ ((0 + n : Nat) : Int) = _
      unfold i_transformed_b7
      rw [hl, Nat.zero_add, dnlt, bsel_false]
  rw [e, obind_eq, osum_inl]; rfl
theorem isRing_fv {l : List (F × F)} (h0 : 0 < l.length) (h1 : l.length ≤ 32) (f : ∀ z ∈ l, CFv z) : i_isRing l = some true := by
  unfold i_isRing i_length_complex64
  rw [obind_eq, i_inRange_eq, decide_eq_true (by omega), decide_eq_true (by omega), Bool.and_self, obind_eq, bsel_true]
  have e : loopM (x_slices_IndexFunc_complex64_complex64_1Fi_isRing_1_s1 l) 0 = some (.inl ()) := by
    refine loop_go (step := x_slices_IndexFunc_complex64_complex64_1Fi_isRing_1_s1 l) (fun j : Nat => (j : Int)) l.length 0 (fun j _ hj => ?_) ?_
    · have hj : j < l.length := by omega
      have hz := f (l.getD j (none, none)) (List.mem_of_getElem? (getD_of_lt (none, none) hj))
      show x_slices_IndexFunc_complex64_complex64_1Fi_isRing_1_b1 l (j : Int) = _
      unfold x_slices_IndexFunc_complex64_complex64_1Fi_isRing_1_b1
      rw [dlt hj, bsel_true, at?_n (none, none) hj, obind_eq]
      unfold i_isRing_1 i_IsFiniteComplex
      rw [i_IsFinite_eq hz.1.fok, hz.1.fin, i_IsFinite_eq hz.2.fok, hz.2.fin]
      simp only [obind_eq, bsel_true, Bool.not_true, bsel_false]
      rw [wsucc (by omega), olet_eq]
    · show x_slices_IndexFunc_complex64_complex64_1Fi_isRing_1_b1 l ((0 + l.length : Nat) : Int) = _
      unfold x_slices_IndexFunc_complex64_complex64_1Fi_isRing_1_b1
      rw [Nat.zero_add, dnlt, bsel_false]
  unfold x_slices_ContainsFunc_complex64_complex64_1Fi_isRing_1 x_slices_IndexFunc_complex64_complex64_1Fi_isRing_1
  rw [e, obind_eq, osum_inl]
  rfl
structure Spc (xs : List (F × F)) (n : Nat) (P Q : Nat → Rat) (G : Rat) : Prop where
  len : xs.length = n
  pos : 0 < n
  le : n ≤ 9
  fv : ∀ k, k < n → CFv (xs.getD k (none, none)) ∧ Ab (vl (xs.getD k (none, none)).1) (P k) ∧ Ab (vl (xs.getD k (none, none)).2) (Q k) ∧ P k ≤ 10000 ∧ Q k ≤ 10000
  sum : ∀ k, k ≤ n → rs (fun j => P j + Q j) k ≤ G
  big : G ≤ 1000
theorem Spc.all {xs : List (F × F)} {n : Nat} {P Q : Nat → Rat} {G : Rat} (h : Spc xs n P Q G) : ∀ z ∈ xs, CFv z := fun z hz => by
  obtain ⟨i, hi, rfl⟩ := List.mem_iff_getElem.1 hz
  have := (h.fv i (by rw [← h.len]; exact hi)).1
  rwa [show xs.getD i (none, none) = xs[i] from by simp [List.getD, hi]] at this
theorem Spc.ring {xs : List (F × F)} {n : Nat} {P Q : Nat → Rat} {G : Rat} (h : Spc xs n P Q G) : i_isRing xs = some true :=
  isRing_fv (by rw [h.len]; exact h.pos) (by rw [h.len]; have := h.le; omega) h.all
theorem trans_ok {xs : List (F × F)} {n : Nat} {P Q : Nat → Rat} {G : Rat} (h : Spc xs n P Q G) (s : Bool) : ∃ ys, i_transformed xs s = some ys ∧ ys.length = n ∧
    ∀ m, m < n → CFv (ys.getD m (none, none)) ∧ cxB (cxD (cxv (ys.getD m (none, none))) (cxS (fun k => cxM (cxv (xs.getD k (none, none))) (pcx n s (k * m))) n)) (sE n G) := by
  have hn := h.le
  have key : ∀ m, m < n → ∀ k, k ≤ n → ∃ z, csum (fun k => xs.getD k (none, none)) (fun k => pw n s (k * m)) k = some z ∧ CFv z ∧ cxB (cxD (cxv z) (cxS (fun j => cxM (cxv (xs.getD j (none, none))) (cxv (pw n s (j * m)))) k)) (rs (fun j => P j + Q j) k / 8388608 + (k : Rat) * ((G + 1 / 10) / 16777216 + 5 / 1000000000)) := by
    intro m hm
    refine csum_near (f := fun k => xs.getD k (none, none)) (g := fun k => pw n s (k * m)) hn h.big (fun k hk => ⟨(h.fv k hk).1, (pw_use (by omega) hk hm).2.1⟩) (fun k hk => ?_) h.sum
    obtain ⟨_, b1, b2, c1, c2⟩ := h.fv k hk
    obtain ⟨_, _, v⟩ := pw_use (s := s) (by omega) hk hm
    obtain ⟨o1, o2⟩ := pcx_one (s := s) (show n < 10 by omega) hk hm
    rw [← v] at o1 o2
    exact ⟨(b1.mul o1).mono (by grind), (b1.mul o2).mono (by grind), (b2.mul o2).mono (by grind), (b2.mul o1).mono (by grind), c1, c2⟩
  refine ⟨_, trans_eq h.len (by omega) fun m hm k hk => ⟨(key m hm k hk).choose, (key m hm k hk).choose_spec.1⟩, by simp, fun m hm => ?_⟩
  obtain ⟨z, z1, z2, z3⟩ := key m hm n (Nat.le_refl _)
  have e : ((List.range n).map fun m => cval (fun k => xs.getD k (none, none)) (fun k => pw n s (k * m)) n).getD m (none, none) = z := by
    have : ((List.range n).map fun m => cval (fun k => xs.getD k (none, none)) (fun k => pw n s (k * m)) n).getD m (none, none) = cval (fun k => xs.getD k (none, none)) (fun k => pw n s (k * m)) n := by
      simp [List.getD, hm]
    rw [this]; unfold cval; rw [z1]; rfl
  rw [e]
  refine ⟨z2, ?_⟩
  rw [cxS_congr (g := fun j => cxM (cxv (xs.getD j (none, none))) (cxv (pw n s (j * m)))) fun j hj => by rw [(pw_use (s := s) (show n < 10 by omega) hj hm).2.2]]
  refine z3.mono ?_
  have := h.sum n (Nat.le_refl _)
  unfold sE
  grind
theorem spectrum_ok {xs : List (F × F)} {n : Nat} {P Q : Nat → Rat} {G : Rat} (h : Spc xs n P Q G) : ∃ ys, i_SpectrumOf xs = some (true, ys) ∧ ys.length = n ∧
    ∀ m, m < n → CFv (ys.getD m (none, none)) ∧ cxB (cxD (cxv (ys.getD m (none, none))) (cxS (fun k => cxM (cxv (xs.getD k (none, none))) (pcx n true (k * m))) n)) (sE n G) := by
  obtain ⟨ys, e, l, f⟩ := trans_ok h true
  refine ⟨ys, ?_, l, f⟩
  unfold i_SpectrumOf
  rw [h.ring, obind_eq, bsel_true, e, obind_eq]
  have hr : i_isRing ys = some true := isRing_fv (by rw [l]; exact h.pos) (by rw [l]; have := h.le; omega) fun z hz => by
    obtain ⟨i, hi, rfl⟩ := List.mem_iff_getElem.1 hz
    have := (f i (by rw [← l]; exact hi)).1
    rwa [show ys.getD i (none, none) = ys[i] from by simp [List.getD, hi]] at this
  unfold i_ring_0o
  rw [hr, obind_eq, bsel_true, obind_eq, osum_inl, obind2_eq, decide_eq_true rfl, need_true]
theorem Rv.nn {k : FloatKind} {q : Rat} {x : F} (h : Rv k q x) (h0 : -(1 / 2 ^ (lpn k + 1)) ≤ q) : 0 ≤ q := by
  obtain ⟨n, _, e⟩ := h
  have hp := p2 (lpn k)
  have e2 : (1 : Rat) / 2 ^ (lpn k + 1) * 2 ^ lpn k = 1 / 2 := by
    have : (2 : Rat) ^ (lpn k + 1) = 2 ^ lpn k * 2 := by rw [rpow_add]; grind
    rw [this]
    generalize (2 : Rat) ^ lpn k = Z at *
    grind
  have h1 := Rat.mul_le_mul_of_nonneg_right h0 (Rat.le_of_lt hp)
  rw [← e] at h1
  have h2 : -(1 / 2 : Rat) ≤ (n : Rat) := by
    have : -((1 : Rat) / 2 ^ (lpn k + 1)) * 2 ^ lpn k = -(1 / 2) := by rw [Rat.neg_mul, e2]
    rw [this] at h1; exact h1
  have h3 : (0 : Int) ≤ n := by
    by_cases h : 0 ≤ n
    · exact h
    · exfalso
      have : (n : Rat) ≤ ((-1 : Int) : Rat) := by exact_mod_cast (show n ≤ -1 by omega)
      have c : ((-1 : Int) : Rat) = -1 := by decide +kernel
      rw [c] at this
      grind
  have h4 : (0 : Rat) ≤ q * 2 ^ lpn k := by rw [← e]; exact_mod_cast h3
  exact Rat.le_of_mul_le_mul_right (c := 2 ^ lpn k) (by rw [Rat.zero_mul]; exact h4) hp
theorem sqrt_tiny {x : F} (h : Rv .f64 0 x) : ∃ z, Rv .f64 z (fsqrt x) ∧ Ab z (1 / 2000) := by
  obtain ⟨b, s, m, a, u, rfl, e1, u0, u1, u2, _⟩ := h.read
  have hu : u = 0 := by unfold sg at u2; cases s <;> simp at u2 <;> grind
  subst hu
  have hm : m = 0 := by
    have : (m : Rat) * 2 ^ a = 0 := by rw [← u1]; simp
    rcases Rat.mul_eq_zero.1 this with h | h
    · exact_mod_cast h
    · have := p2 a; rw [h] at this; exact absurd this (by decide)
  subst hm
  have e : fsqrt (some b) = some (FloatKind.f64.format.nearest s 0 (FloatKind.f64.format.leastPlace + (a : Nat))) := by
    show FloatKind.f64.format.sqrt b = _
    unfold Ieee.Format.sqrt
    rw [e1]
    simp only [Ieee.Datum.root, if_true]
    rfl
  rw [e]
  obtain ⟨z, z1, z2, z3⟩ := rv_near (k := .f64) (s := s) (m := 0) (p := FloatKind.f64.format.leastPlace + (a : Nat)) (b := 0) (c := a) (u := 0) (M := 0) (by omega) (by simp) Rat.le_refl (by decide +kernel)
  refine ⟨_, z1, Ab.sg ((show Ab z _ from by have := z3; rw [show z - 0 = z from by grind] at this; exact this).mono (by decide +kernel))⟩
theorem mul_self_nn {q M : Rat} {x : F} (hx : Rv .f64 q x) (hM : Ab q M) (h : M ≤ 1000) : ∃ z, Rv .f64 z (fop .mul .f64 x x) ∧ 0 ≤ z ∧ Ab (z - q * q) (1 / 1000000000) := by
  have q0 : 0 ≤ q * q := by
    by_cases h : 0 ≤ q
    · exact Rat.mul_nonneg h h
    · have := Rat.mul_nonneg (a := -q) (b := -q) (by grind) (by grind); grind
  have hq : Ab (q * q) (q * q) := ⟨by grind, Rat.le_refl⟩
  have hM2 := hM.mul hM
  have M0 := hM.nonneg
  have hMM : M * M ≤ 1000 * 1000 := by
    have a := Rat.mul_le_mul_of_nonneg_right h M0
    have b := Rat.mul_le_mul_of_nonneg_left h (show (0 : Rat) ≤ 1000 by decide)
    grind
  have hb : q * q ≤ 1000000 := by have := hM2.2; grind
  obtain ⟨z, z1, z2⟩ := hx.mulh hx hq (big60 (by grind))
  refine ⟨z, z1, Rv.nn z1 ?_, ?_⟩
  · have := z2.1
    unfold eh at this
    have k : (0 : Rat) ≤ 1 / 2 ^ (FloatKind.f64.format.fractionBits + 1) := by decide +kernel
    have k1 : (1 : Rat) / 2 ^ (FloatKind.f64.format.fractionBits + 1) ≤ 1 := by decide +kernel
    have l := Rat.mul_le_mul_of_nonneg_left k1 q0
    have l0 := Rat.mul_nonneg q0 k
    generalize (1 : Rat) / 2 ^ (FloatKind.f64.format.fractionBits + 1) = c at *
    generalize (1 : Rat) / 2 ^ (lpn FloatKind.f64 + 1) = d at *
    grind
  · refine z2.mono ?_
    have l : eh .f64 (q * q) ≤ er .f64 (q * q) := by
      unfold eh er ep et
      have k1 : (1 : Rat) / 2 ^ (FloatKind.f64.format.fractionBits + 1) ≤ 1 / 2 ^ FloatKind.f64.format.fractionBits := by decide +kernel
      have k2 : (1 : Rat) / 2 ^ (lpn FloatKind.f64 + 1) ≤ 1 / 2 ^ lpn FloatKind.f64 := by decide +kernel
      have := Rat.mul_le_mul_of_nonneg_left k1 q0
      grind
    exact Rat.le_trans l (e64_le hb q0)
theorem addrv_nn {p q : Rat} {x y : F} (hx : Rv .f64 p x) (hy : Rv .f64 q y) (p0 : 0 ≤ p) (q0 : 0 ≤ q) (h : p + q ≤ 1000000) : ∃ z, Rv .f64 z (fop .add .f64 x y) ∧ 0 ≤ z ∧ Ab (z - (p + q)) (1 / 1000000000) := by
  have s0 : 0 ≤ p + q := by grind
  obtain ⟨z, z1, z2⟩ := hx.addh hy (M := p + q) ⟨by grind, Rat.le_refl⟩ (big60 (by grind))
  refine ⟨z, z1, Rv.nn z1 ?_, ?_⟩
  · have := z2.1
    unfold eh at this
    have k : (0 : Rat) ≤ 1 / 2 ^ (FloatKind.f64.format.fractionBits + 1) := by decide +kernel
    have k1 : (1 : Rat) / 2 ^ (FloatKind.f64.format.fractionBits + 1) ≤ 1 := by decide +kernel
    have l := Rat.mul_le_mul_of_nonneg_left k1 s0
    have l0 := Rat.mul_nonneg s0 k
    generalize (1 : Rat) / 2 ^ (FloatKind.f64.format.fractionBits + 1) = c at *
    generalize (1 : Rat) / 2 ^ (lpn FloatKind.f64 + 1) = d at *
    grind
  · refine z2.mono ?_
    have l : eh .f64 (p + q) ≤ er .f64 (p + q) := by
      unfold eh er ep et
      have k1 : (1 : Rat) / 2 ^ (FloatKind.f64.format.fractionBits + 1) ≤ 1 / 2 ^ FloatKind.f64.format.fractionBits := by decide +kernel
      have k2 : (1 : Rat) / 2 ^ (lpn FloatKind.f64 + 1) ≤ 1 / 2 ^ lpn FloatKind.f64 := by decide +kernel
      have := Rat.mul_le_mul_of_nonneg_left k1 s0
      grind
    exact Rat.le_trans l (e64_le h s0)
theorem sqrt_small {q : Rat} {x : F} (hx : Rv .f64 q x) (h0 : 0 ≤ q) (h1 : q ≤ 1 / 1800000) : ∃ z, Rv .f64 z (fsqrt x) ∧ Ab z (9 / 10000) := by
  by_cases hq : q = 0
  · subst hq
    obtain ⟨z, z1, z2⟩ := sqrt_tiny hx
    exact ⟨z, z1, z2.mono (by decide +kernel)⟩
  · have e40 : (2 : Rat) ^ 40 = 1099511627776 := by decide +kernel
    have e53 : (2 : Rat) ^ 53 = 9007199254740992 := by decide +kernel
    obtain ⟨w, z, z1, w0, w1, w2⟩ := hx.sqrt (by grind) (by rw [e40]; grind)
    rw [e53] at w1
    have hw : w ≤ 3 / 4000 := by
      by_cases h : w ≤ 3 / 4000
      · exact h
      · exfalso
        have h2 : (3 : Rat) / 4000 < w := Rat.not_le.1 h
        have a := Rat.mul_le_mul_of_nonneg_left (Rat.le_of_lt h2) w0
        have := w1.2
        grind
    have w3 := w2.mono (e64_le (M := w) (by grind) w0)
    exact ⟨z, z1, ⟨by have := w3.1; grind, by have := w3.2; grind⟩⟩
theorem long_small {z : F × F} (hz : CFv z) (h : cxB (cxv z) (1 / 2000)) : ∃ r c, s_LongOf z.1 z.2 = some r ∧ Rv .f64 c (fwiden r) ∧ Ab c (95 / 100000) := by
  obtain ⟨a, a1, a2, a3⟩ := mul_self_nn hz.1.rv.widen h.1 (by decide +kernel)
  obtain ⟨b, b1, b2, b3⟩ := mul_self_nn hz.2.rv.widen h.2 (by decide +kernel)
  have ha := (h.1.mul h.1).2
  have hb := (h.2.mul h.2).2
  have ha' : vl z.1 * vl z.1 ≤ 1 / 2000 * (1 / 2000) := ha
  have hb' : vl z.2 * vl z.2 ≤ 1 / 2000 * (1 / 2000) := hb
  have a4 := a3.2
  have b4 := b3.2
  obtain ⟨c, c1, c2, c3⟩ := addrv_nn a1 b1 a2 b2 (by grind)
  have c4 := c3.2
  obtain ⟨d, d1, d2⟩ := sqrt_small c1 c2 (by grind)
  obtain ⟨e, y, e1, e2, e3⟩ := d1.narrow d2 (by decide +kernel)
  have e4 := e3.mono (er_le _)
  unfold e32 at e4
  refine ⟨y, e, ?_, e2.widen, ⟨by have := d2.1; have := e4.1; grind, by have := d2.2; have := e4.2; grind⟩⟩
  unfold s_LongOf s_l01Long s_l01PowerWide x_math_Sqrt s_l01Narrow
  simp only [olet_eq, obind_eq]
  rw [e1, obind_eq, obind_eq, obind_eq]
theorem farRing_no {a b : List (F × F)} {n : Nat} (ha : a.length = n) (hb : b.length = n) (hn : n ≤ 1000000) (h : ∀ i, i < n → CFv (a.getD i (none, none)) ∧ CFv (b.getD i (none, none)) ∧ cxB (cxD (cxv (a.getD i (none, none))) (cxv (b.getD i (none, none)))) (4999 / 10000000)) :
    w_b10FarRing a b = some false := by
  unfold w_b10FarRing
  rw [ha, hb, decide_eq_true rfl, Bool.not_true, bsel_false]
  have e : loopM (w_b10FarRing_s1 a b) 0 = some (.inl ()) := by
    refine loop_go (step := w_b10FarRing_s1 a b) (fun j : Nat => (j : Int)) n 0 (fun j _ hj => ?_) ?_
    · have hj : j < n := by omega
      obtain ⟨f1, f2, f3⟩ := h j hj
      show w_b10FarRing_b1 a b (j : Int) = _
      unfold w_b10FarRing_b1
      obtain ⟨s1, s2⟩ := fv_subh f1.1 f2.1 f3.1 (by decide +kernel)
      obtain ⟨t1, t2⟩ := fv_subh f1.2 f2.2 f3.2 (by decide +kernel)
      have l : h32 (4999 / 10000000) ≤ 1 / 100000000 := by decide +kernel
      have hz : cxB (cxv (fop .sub .f32 (a.getD j (none, none)).1 (b.getD j (none, none)).1, fop .sub .f32 (a.getD j (none, none)).2 (b.getD j (none, none)).2)) (1 / 2000) := by
        constructor
        · have := f3.1
          exact ⟨by have := this.1; have := s2.1; unfold cxD cxv at *; simp only [] at *; grind, by have := this.2; have := s2.2; unfold cxD cxv at *; simp only [] at *; grind⟩
        · have := f3.2
          exact ⟨by have := this.1; have := t2.1; unfold cxD cxv at *; simp only [] at *; grind, by have := this.2; have := t2.2; unfold cxD cxv at *; simp only [] at *; grind⟩
      obtain ⟨r, c, e1, e2, e3⟩ := long_small ⟨s1, t1⟩ hz
      have e1 : s_LongOf (fop .sub .f32 (a.getD j (none, none)).1 (b.getD j (none, none)).1) (fop .sub .f32 (a.getD j (none, none)).2 (b.getD j (none, none)).2) = some r := e1
      obtain ⟨q, q1, q2⟩ := c001
      rw [ha, dlt hj, bsel_true, at?_n (none, none) (by omega), obind_eq, at?_n (none, none) (by omega), obind_eq, e1, obind_eq, olet_eq, (e2.ord q1).2.1, decide_eq_true (by have := e3.2; grind), bsel_true, wsucc (by omega), olet_eq]
    · show w_b10FarRing_b1 a b ((0 + n : Nat) : Int) = _
      unfold w_b10FarRing_b1
      rw [ha, Nat.zero_add, dnlt, bsel_false]
  rw [e, obind_eq, osum_inl]; rfl
theorem zdivC (z : Rat) : ((0 : Int) : Rat) / z = 0 := by rw [Rat.div_def]; simp
theorem natpowC (n : Nat) : ((2 ^ n : Nat) : Rat) = 2 ^ n := by push_cast; rfl
theorem orth_cx {n k j : Nat} (hn : n < 10) (hk : k < n) (hj : j < n) : cxB (cxD (cxS (fun m => cxM (pcx n true (k * m)) (pcx n false (m * j))) n) (if j = k then (n : Rat) else 0, 0)) (2 / 1000000) := by
  set_option exponentiation.threshold 1000 in
  have h := ph_orth n hn k hk j hj
  have hp : (0 : Rat) < 2 ^ 149 := p2 149
  have e298 : (2 : Rat) ^ 298 = 2 ^ 149 * 2 ^ 149 := by rw [← rpow_add]
  have hsum : ∀ m : Nat, cxS (fun m => cxM (pcx n true (k * m)) (pcx n false (m * j))) m = (((((List.range m).foldl (fun s m =>
      let a := phAt n true (k * m); let b := phAt n false (j * m)
      (s.1 + (a.1 * b.1 - a.2 * b.2), s.2 + (a.1 * b.2 + a.2 * b.1))) ((0 : Int), (0 : Int))).1 : Int) : Rat) / 2 ^ 298, ((((List.range m).foldl (fun s m =>
      let a := phAt n true (k * m); let b := phAt n false (j * m)
      (s.1 + (a.1 * b.1 - a.2 * b.2), s.2 + (a.1 * b.2 + a.2 * b.1))) ((0 : Int), (0 : Int))).2 : Int) : Rat) / 2 ^ 298) := by
    intro m
    induction m with
    | zero => unfold cxS; simp only [rs, List.range_zero, List.foldl]; rw [zdivC (2 ^ 298)]
    | succ m ih =>
      rw [List.range_succ, List.foldl_append]
      have e1 := congrArg Prod.fst ih
      have e2 := congrArg Prod.snd ih
      have e1 : rs (fun m => (cxM (pcx n true (k * m)) (pcx n false (m * j))).1) m = _ := e1
      have e2 : rs (fun m => (cxM (pcx n true (k * m)) (pcx n false (m * j))).2) m = _ := e2
      unfold cxS
      simp only [rs, List.foldl]
      rw [e1, e2, e298]
      unfold pcx cxM
      simp only []
      rw [Nat.mul_comm m j]
      generalize (2 : Rat) ^ 149 = Z at *
      refine Prod.ext ?_ ?_ <;> simp only [] <;> push_cast <;> grind
  have hs := hsum n
  unfold phSum at h
  rw [hs]
  generalize ((List.range n).foldl (fun s m =>
      let a := phAt n true (k * m); let b := phAt n false (j * m)
      (s.1 + (a.1 * b.1 - a.2 * b.2), s.2 + (a.1 * b.2 + a.2 * b.1))) ((0 : Int), (0 : Int))) = p at *
  have c298 : ((2 ^ 298 : Nat) : Rat) = 2 ^ 298 := natpowC 298
  have a1 : Ab (((p.1 - (if k = j then (n : Int) * 2 ^ 298 else 0) : Int) : Rat) / ((2 ^ 298 : Nat) : Rat)) (2 / 1000000) :=
    ab_div (e := 2 ^ 298 * 2 / 1000000) (Nat.pow_pos (by decide)) (by omega) (by decide +kernel)
  have a2 : Ab ((p.2 : Rat) / ((2 ^ 298 : Nat) : Rat)) (2 / 1000000) :=
    ab_div (e := 2 ^ 298 * 2 / 1000000) (Nat.pow_pos (by decide)) (by omega) (by decide +kernel)
  rw [c298] at a1 a2
  have hp2 : (0 : Rat) < 2 ^ 298 := p2 298
  unfold cxD cxB
  simp only []
  constructor
  · by_cases hkj : j = k
    · rw [if_pos hkj.symm] at a1
      rw [if_pos hkj]
      rw [Rat.intCast_sub, Rat.intCast_mul] at a1
      have c : (((2 : Int) ^ 298 : Int) : Rat) = 2 ^ 298 := by decide +kernel
      rw [c] at a1
      have cn : ((n : Int) : Rat) = (n : Rat) := rfl
      rw [cn] at a1
      generalize (2 : Rat) ^ 298 = Z at *
      have : (p.1 : Rat) / Z - (n : Rat) = ((p.1 : Rat) - (n : Rat) * Z) / Z := by grind
      rw [this]; exact a1
    · rw [if_neg fun h => hkj h.symm] at a1
      rw [if_neg hkj]
      rw [Int.sub_zero] at a1
      rw [show (p.1 : Rat) / 2 ^ 298 - 0 = (p.1 : Rat) / 2 ^ 298 from by grind]; exact a1
  · rw [show (p.2 : Rat) / 2 ^ 298 - 0 = (p.2 : Rat) / 2 ^ 298 from by grind]; exact a2
theorem mult_cx {n m k l : Nat} (hn : n < 10) (hm : m < n) (hk : k < n) (hl : l < n) : cxB (cxD (pcx n true (((k + l) % n) * m)) (cxM (pcx n true (k * m)) (pcx n true (l * m)))) (1 / 10000000) := by
  set_option exponentiation.threshold 1000 in
  obtain ⟨h1, h2⟩ := ph_mult n hn m hm k hk l hl
  have e298 : (2 : Rat) ^ 298 = 2 ^ 149 * 2 ^ 149 := by rw [← rpow_add]
  have c298 : ((2 ^ 298 : Nat) : Rat) = 2 ^ 298 := natpowC 298
  have c149 : (((2 : Int) ^ 149 : Int) : Rat) = 2 ^ 149 := by decide +kernel
  have a1 := ab_div (d := 2 ^ 298) (c := 1 / 10000000) (e := 2 ^ 298 / 10000000) (Nat.pow_pos (by decide)) (show ((phAt n true (k * m)).1 * (phAt n true (l * m)).1 - (phAt n true (k * m)).2 * (phAt n true (l * m)).2 - (phAt n true ((k + l) % n * m)).1 * 2 ^ 149).natAbs ≤ 2 ^ 298 / 10000000 by omega) (by decide +kernel)
  have a2 := ab_div (d := 2 ^ 298) (c := 1 / 10000000) (e := 2 ^ 298 / 10000000) (Nat.pow_pos (by decide)) (show ((phAt n true (k * m)).1 * (phAt n true (l * m)).2 + (phAt n true (k * m)).2 * (phAt n true (l * m)).1 - (phAt n true ((k + l) % n * m)).2 * 2 ^ 149).natAbs ≤ 2 ^ 298 / 10000000 by omega) (by decide +kernel)
  rw [c298, Rat.intCast_sub, Rat.intCast_sub, Rat.intCast_mul, Rat.intCast_mul, Rat.intCast_mul, c149, e298] at a1
  rw [c298, Rat.intCast_sub, Rat.intCast_add, Rat.intCast_mul, Rat.intCast_mul, Rat.intCast_mul, c149, e298] at a2
  have hp : (0 : Rat) < 2 ^ 149 := p2 149
  unfold cxB cxD cxM pcx
  simp only []
  generalize (2 : Rat) ^ 149 = Z at *
  constructor
  · have := a1.neg
    rw [show ∀ a b c d e : Rat, -((a * b - c * d - e * Z) / (Z * Z)) = e / Z - (a / Z * (b / Z) - c / Z * (d / Z)) from fun a b c d e => by grind] at this
    exact this
  · have := a2.neg
    rw [show ∀ a b c d e : Rat, -((a * b + c * d - e * Z) / (Z * Z)) = e / Z - (a / Z * (b / Z) + c / Z * (d / Z)) from fun a b c d e => by grind] at this
    exact this
theorem one_f32 : Fv (some 1065353216) ∧ vl (some 1065353216) = 1 := by
  have d : Dy .f32 0 1 (some 1065353216) := ⟨1065353216, rfl, by decide, by decide, by decide, by decide +kernel⟩
  have := d.fv
  exact ⟨this.1, by rw [this.2]; simp; grind⟩
theorem by_ok {n : Nat} (h0 : 0 < n) (h1 : n ≤ 9) : Fv (fop .quo .f32 (some 1065353216) (fint .f32 (n : Int))) ∧ Ab (vl (fop .quo .f32 (some 1065353216) (fint .f32 (n : Int))) - 1 / (n : Rat)) (2 / 10000000) := by
  have hd : (2 : Nat) ^ dgn .f32 = 16777216 := by decide
  have d : Dy .f32 0 (n : Int) (fint .f32 (n : Int)) := Dy.int (by omega)
  obtain ⟨f, v⟩ := d.fv
  have v : vl (fint .f32 (n : Int)) = (n : Rat) := by
    rw [v, show ((n : Int) : Rat) = (n : Rat) from rfl]; simp; grind
  have n1 : (1 : Rat) ≤ (n : Rat) := by exact_mod_cast h0
  have hq : (1 : Rat) / (n : Rat) * (n : Rat) = 1 := div_mul_pos (by grind)
  have q0 : 0 ≤ (1 : Rat) / (n : Rat) := Rat.le_of_lt (one_div_pos (by grind))
  have q1 : (1 : Rat) / (n : Rat) ≤ 1 := by
    have := Rat.mul_le_mul_of_nonneg_left n1 q0
    rw [hq] at this; grind
  obtain ⟨a, b⟩ := fv_quo one_f32.1 f (M := 1) (by rw [v]; grind) (by rw [one_f32.2, v]; exact ⟨by grind, q1⟩) (by decide +kernel)
  refine ⟨a, ?_⟩
  rw [one_f32.2, v] at b
  exact b.mono (by decide +kernel)
theorem getD_mapR {α : Type} (f : Nat → α) {n j : Nat} (hj : j < n) {d : α} : ((List.range n).map f).getD j d = f j := by simp [List.getD, hj]
theorem abTri {a b c e f : Rat} (h : Ab (a - b) e) (g : Ab (b - c) f) : Ab (a - c) (e + f) := ⟨by have := h.1; have := g.1; grind, by have := h.2; have := g.2; grind⟩
theorem scale_alg {n q b y v E c : Rat} (n0 : 1 ≤ n) (n9 : n ≤ 9) (hq : q * n = 1) (hb : Ab (b - q) (2 / 10000000)) (hy : Ab (y - n * v) (n * c)) (hv : Ab v 2) (hc : c ≤ 1 / 100) (c0 : 0 ≤ c) : Ab (y * b - v) (c + 1 / 200000) ∧ Ab (y * b) 3 := by
  have q0 : 0 ≤ q := by
    by_cases h : 0 ≤ q
    · exact h
    · have := Rat.mul_le_mul_of_nonneg_left (c := -q) n0 (by grind); grind
  have e1 : Ab ((y - n * v) * q) c := by
    have := hy.mul (show Ab q q from ⟨by grind, Rat.le_refl⟩)
    rw [show n * c * q = c from by grind] at this; exact this
  have hy' : Ab y (n * 2 + n * c) := by
    have := hv.mul (show Ab n n from ⟨by grind, Rat.le_refl⟩)
    have := this.add hy
    rw [show v * n + (y - n * v) = y from by grind] at this
    exact this.mono (by grind)
  have nc := Rat.mul_le_mul_of_nonneg_left hc (show 0 ≤ n by grind)
  have hy2 : Ab y 19 := hy'.mono (by grind)
  have e2 := hy2.mul hb
  have e3 : y * b - v = (y - n * v) * q + y * (b - q) := by grind
  have e4 : Ab (y * b - v) (c + 1 / 200000) := by rw [e3]; exact (e1.add e2).mono (by grind)
  exact ⟨e4, ⟨by have := e4.1; have := hv.1; grind, by have := e4.2; have := hv.2; grind⟩⟩
theorem back_ok {xs : List (F × F)} {n : Nat} {P Q : Nat → Rat} {G d : Rat} {v : Nat → Rat × Rat} (h : Spc xs n P Q G) (hG : G ≤ 81 * (n : Rat)) (hv : ∀ k, k < n → cxB (v k) 2) (hd : d ≤ 1 / 1000)
    (hx : ∀ m, m < n → cxB (cxD (cxv (xs.getD m (none, none))) (cxS (fun k => cxM (v k) (pcx n true (k * m))) n)) d) :
    ∃ zs, i_FromSpectrum xs = some (true, zs) ∧ zs.length = n ∧ ∀ j, j < n → CFv (zs.getD j (none, none)) ∧ cxB (cxD (cxv (zs.getD j (none, none))) (v j)) (2 * d + 8 / 100000) := by
  have n0 := h.pos
  have n9 := h.le
  obtain ⟨ys, e, l, f⟩ := trans_ok h false
  obtain ⟨b1, b2⟩ := by_ok n0 n9
  have d0 : 0 ≤ d := (hx 0 n0).1.nonneg
  have G0 : 0 ≤ G := by
    have := h.sum 0 (Nat.zero_le _)
    simp only [rs] at this; exact this
  have n1' : (1 : Rat) ≤ (n : Rat) := by exact_mod_cast n0
  have n9' : (n : Rat) ≤ 9 := by exact_mod_cast n9
  have hy : ∀ j, j < n → cxB (cxD (cxv (ys.getD j (none, none))) ((n : Rat) * (v j).1, (n : Rat) * (v j).2)) ((n : Rat) * (2 * d + 62 / 1000000)) := by
    intro j hj
    obtain ⟨_, f2⟩ := f j hj
    have hb := back_cx (n := n) (j := j) (v := v) (p := fun k m => pcx n true (k * m)) (q := fun j m => pcx n false (m * j)) (B := 2) (e := 2 / 1000000) hj hv (fun k hk => orth_cx (by omega) hk hj)
    have hm : cxB (cxD (cxS (fun k => cxM (cxv (xs.getD k (none, none))) (pcx n false (k * j))) n) (cxS (fun m => cxM (cxS (fun k => cxM (v k) (pcx n true (k * m))) n) (pcx n false (m * j))) n)) ((n : Rat) * (2 * (d * 1))) := by
      rw [cxS_D]
      refine cxS_Bn fun m hm => ?_
      show cxB (cxD (cxM _ _) (cxM _ _)) _
      rw [cxM_Dl]
      exact cxB.mul (hx m hm) (pcx_one (by omega) hm hj)
    refine (cxB.tri (cxB.tri f2 hm) hb).mono ?_
    have k1 : sE n G ≤ (n : Rat) * (54 / 1000000) := by
      unfold sE
      have : (n : Rat) * ((G + 1 / 10) / 16777216 + 5 / 1000000000) ≤ (n : Rat) * (44 / 1000000) := Rat.mul_le_mul_of_nonneg_left (by grind) (by grind)
      grind
    grind
  have hz : ∀ j, j < n → ∃ z : F × F, i_ScaleComplex (ys.getD j (none, none)).1 (ys.getD j (none, none)).2 (fop .quo .f32 (some 1065353216) (fint .f32 (n : Int))) = some (z.1, z.2) ∧ CFv z ∧ cxB (cxD (cxv z) (v j)) (2 * d + 8 / 100000) := by
    intro j hj
    obtain ⟨f1, f2⟩ := f j hj
    have hyj := hy j hj
    have hq : (1 : Rat) / (n : Rat) * (n : Rat) = 1 := div_mul_pos (by grind)
    obtain ⟨r1, r2⟩ := scale_alg (E := 0) n1' n9' hq b2 hyj.1 (hv j hj).1 (by grind) (by grind)
    obtain ⟨s1, s2⟩ := scale_alg (E := 0) n1' n9' hq b2 hyj.2 (hv j hj).2 (by grind) (by grind)
    have r2 : Ab (vl (ys.getD j (none, none)).1 * vl (fop .quo .f32 (some 1065353216) (fint .f32 (n : Int)))) 3 := r2
    have s2 : Ab (vl (ys.getD j (none, none)).2 * vl (fop .quo .f32 (some 1065353216) (fint .f32 (n : Int)))) 3 := s2
    obtain ⟨t1, t2⟩ := fv_mulh f1.1 b1 r2 (by decide +kernel)
    obtain ⟨u1, u2⟩ := fv_mulh f1.2 b1 s2 (by decide +kernel)
    have l : h32 3 ≤ 1 / 1000000 := by decide +kernel
    refine ⟨(_, _), rfl, ⟨t1, u1⟩, ?_, ?_⟩
    · exact (abTri t2 r1).mono (by grind)
    · exact (abTri u2 s1).mono (by grind)
  refine ⟨(List.range n).map fun j => ((i_ScaleComplex (ys.getD j (none, none)).1 (ys.getD j (none, none)).2 (fop .quo .f32 (some 1065353216) (fint .f32 (n : Int)))).getD (none, none)), ?_, by simp, fun j hj => ?_⟩
  · unfold i_FromSpectrum
    rw [h.ring, obind_eq, bsel_true, h.len, olet_eq, olet_eq, e, obind_eq]
    have el : loopM (i_FromSpectrum_s1 (fop .quo .f32 (some 1065353216) (fint .f32 (n : Int))) ys) ([], 0) = some (.inl ((List.range n).map fun j => ((i_ScaleComplex (ys.getD j (none, none)).1 (ys.getD j (none, none)).2 (fop .quo .f32 (some 1065353216) (fint .f32 (n : Int)))).getD (none, none)))) := by
      refine loop_go (step := i_FromSpectrum_s1 _ ys) (fun i : Nat => ((List.range i).map fun j => ((i_ScaleComplex (ys.getD j (none, none)).1 (ys.getD j (none, none)).2 (fop .quo .f32 (some 1065353216) (fint .f32 (n : Int)))).getD (none, none)), (i : Int))) n 0 (fun j _ hj => ?_) ?_
      · have hj : j < n := by omega
        obtain ⟨z, z1, _⟩ := hz j hj
        show i_FromSpectrum_b1 _ ys _ (j : Int) = _
        unfold i_FromSpectrum_b1
        rw [l, dlt hj, bsel_true, at?_n (none, none) (by omega), obind_eq, z1, obind2_eq, show apok 8 ((List.range j).map fun j => ((i_ScaleComplex (ys.getD j (none, none)).1 (ys.getD j (none, none)).2 (fop .quo .f32 (some 1065353216) (fint .f32 (n : Int)))).getD (none, none))).length 1 = true from by simp [apok]; omega, need_true, wsucc (by omega), olet_eq, List.range_succ, List.map_append, List.map_singleton, z1]
        rfl
      · show i_FromSpectrum_b1 _ ys _ ((0 + n : Nat) : Int) = _
        unfold i_FromSpectrum_b1
        rw [l, Nat.zero_add, dnlt, bsel_false]
    rw [el, obind_eq, osum_inl]
    unfold i_FromSpectrum_k1 i_ring_0o
    have hr : i_isRing ((List.range n).map fun j => ((i_ScaleComplex (ys.getD j (none, none)).1 (ys.getD j (none, none)).2 (fop .quo .f32 (some 1065353216) (fint .f32 (n : Int)))).getD (none, none))) = some true := by
      refine isRing_fv (by simp; omega) (by simp; omega) fun z hz' => ?_
      obtain ⟨j, hj, rfl⟩ := List.mem_map.1 hz'
      obtain ⟨z, z1, z2, _⟩ := hz j (List.mem_range.1 hj)
      rw [z1]; exact z2
    rw [hr, obind_eq, bsel_true, obind_eq, osum_inl, obind2_eq, decide_eq_true rfl, need_true]
  · obtain ⟨z, z1, z2, z3⟩ := hz j hj
    have : ((List.range n).map fun j => ((i_ScaleComplex (ys.getD j (none, none)).1 (ys.getD j (none, none)).2 (fop .quo .f32 (some 1065353216) (fint .f32 (n : Int)))).getD (none, none))).getD j (none, none) = z := by
      rw [getD_mapR _ hj, z1]; rfl
    rw [this]; exact ⟨z2, z3⟩
theorem quot_alg {N D num den q r e : Rat} (hq : q * D = N) (hr : r * den = num) (h1 : Ab (num - N) e) (h2 : Ab (den - D) e) (hQ : Ab q 40) (hd : 1 ≤ den) : Ab (r - q) (41 * e) := by
  have h3 := hQ.mul h2
  have e1 : (r - q) * den = (num - N) - q * (den - D) := by grind
  have h4 : Ab ((r - q) * den) (41 * e) := by rw [e1]; exact (h1.sub h3).mono (by grind)
  have e0 := h1.nonneg
  constructor
  · by_cases h : 0 ≤ r - q
    · grind
    · have := Rat.mul_le_mul_of_nonneg_left (c := -(r - q)) hd (by grind)
      have := h4.1
      grind
  · by_cases h : 0 ≤ r - q
    · have := Rat.mul_le_mul_of_nonneg_left (c := r - q) hd h
      have := h4.2
      grind
    · grind
theorem quot_ok {x y : F × F} {q : Rat × Rat} (hx : CFv x) (hy : CFv y) (bx : cxB (cxv x) 400) (by' : cxB (cxv y) 10) (y0 : 3 ≤ vl y.1)
    (q1 : q.1 * (vl y.1 * vl y.1 + vl y.2 * vl y.2) = vl x.1 * vl y.1 + vl x.2 * vl y.2) (q2 : q.2 * (vl y.1 * vl y.1 + vl y.2 * vl y.2) = vl x.2 * vl y.1 - vl x.1 * vl y.2) (hq : cxB q 40) :
    ∃ z : F × F, i_QuotientOf x.1 x.2 y.1 y.2 = some (z.1, z.2) ∧ CFv z ∧ cxB (cxD (cxv z) q) (6 / 1000000) := by
  obtain ⟨ha, hb⟩ := hx
  obtain ⟨hc, hd⟩ := hy
  obtain ⟨hn, vn⟩ := fv_neg hd
  obtain ⟨xa, xb⟩ := bx
  obtain ⟨yc, yd⟩ := by'
  have xa : Ab (vl x.1) 400 := xa
  have xb : Ab (vl x.2) 400 := xb
  have yc : Ab (vl y.1) 10 := yc
  have yd : Ab (vl y.2) 10 := yd
  have yn : Ab (vl (fneg .f32 y.2)) 10 := by rw [vn]; exact yd.neg
  obtain ⟨m1, r1, e1⟩ := ha.rv.widen.mul hc.rv.widen (xa.mul yc) (big60 (by grind))
  obtain ⟨m2, r2, e2⟩ := hb.rv.widen.mul hn.rv.widen (xb.mul yn) (big60 (by grind))
  obtain ⟨m3, r3, e3⟩ := ha.rv.widen.mul hn.rv.widen (xa.mul yn) (big60 (by grind))
  obtain ⟨m4, r4, e4⟩ := hb.rv.widen.mul hc.rv.widen (xb.mul yc) (big60 (by grind))
  have k1 := e1.mono (e64_le (M := 400 * 10) (by grind) (by grind))
  have k2 := e2.mono (e64_le (M := 400 * 10) (by grind) (by grind))
  have k3 := e3.mono (e64_le (M := 400 * 10) (by grind) (by grind))
  have k4 := e4.mono (e64_le (M := 400 * 10) (by grind) (by grind))
  have p1 := xa.mul yc
  have p2 := xb.mul yn
  have p3 := xa.mul yn
  have p4 := xb.mul yc
  have s1 : Ab (m1 - m2) 9000 := ⟨by have := k1.1; have := k2.2; have := p1.1; have := p2.2; grind, by have := k1.2; have := k2.1; have := p1.2; have := p2.1; grind⟩
  have s2 : Ab (m3 + m4) 9000 := ⟨by have := k3.1; have := k4.1; have := p3.1; have := p4.1; grind, by have := k3.2; have := k4.2; have := p3.2; have := p4.2; grind⟩
  obtain ⟨d1, t1, f1⟩ := r1.sub r2 s1 (big60 (by grind))
  obtain ⟨d2, t2, f2⟩ := r3.add r4 s2 (big60 (by grind))
  have g1 := f1.mono (e64_le (M := 9000) (by grind) (by grind))
  have g2 := f2.mono (e64_le (M := 9000) (by grind) (by grind))
  obtain ⟨c1, u1, c10, w1⟩ := mul_self_nn hc.rv.widen yc (by decide +kernel)
  obtain ⟨c2, u2, c20, w2⟩ := mul_self_nn hd.rv.widen yd (by decide +kernel)
  have yc2 := yc.mul yc
  have yd2 := yd.mul yd
  obtain ⟨c3, u3, c30, w3⟩ := addrv_nn u1 u2 c10 c20 (by have := w1.2; have := w2.2; have := yc2.2; have := yd2.2; grind)
  have hD : Ab (c3 - (vl y.1 * vl y.1 + vl y.2 * vl y.2)) (3 / 1000000000) := ⟨by have := w1.1; have := w2.1; have := w3.1; grind, by have := w1.2; have := w2.2; have := w3.2; grind⟩
  have hN1 : Ab (d1 - (vl x.1 * vl y.1 + vl x.2 * vl y.2)) (3 / 1000000000) := by
    rw [vn] at k2
    exact ⟨by have := g1.1; have := k1.1; have := k2.2; grind, by have := g1.2; have := k1.2; have := k2.1; grind⟩
  have hN2 : Ab (d2 - (vl x.2 * vl y.1 - vl x.1 * vl y.2)) (3 / 1000000000) := by
    rw [vn] at k3
    exact ⟨by have := g2.1; have := k3.1; have := k4.1; grind, by have := g2.2; have := k3.2; have := k4.2; grind⟩
  have hden : 1 ≤ c3 := by
    have := Rat.mul_le_mul_of_nonneg_left y0 (show 0 ≤ vl y.1 by grind)
    have h2 : 0 ≤ vl y.2 * vl y.2 := by
      by_cases h : 0 ≤ vl y.2
      · exact Rat.mul_nonneg h h
      · have := Rat.mul_nonneg (a := -vl y.2) (b := -vl y.2) (by grind) (by grind); grind
    have := hD.1
    grind
  have a1 := quot_alg q1 (div_mul_pos (a := d1) (show 0 < c3 by grind)) hN1 hD hq.1 hden
  have a2 := quot_alg q2 (div_mul_pos (a := d2) (show 0 < c3 by grind)) hN2 hD hq.2 hden
  have b1 : Ab (d1 / c3) 41 := ⟨by have := a1.1; have := hq.1.1; grind, by have := a1.2; have := hq.1.2; grind⟩
  have b2 : Ab (d2 / c3) 41 := ⟨by have := a2.1; have := hq.2.1; grind, by have := a2.2; have := hq.2.2; grind⟩
  obtain ⟨z1, v1, h1⟩ := t1.quo u3 (by grind) b1 (big50 (by decide +kernel))
  obtain ⟨z2, v2, h2⟩ := t2.quo u3 (by grind) b2 (big50 (by decide +kernel))
  have h1 := h1.mono (e64_le (M := 41) (by grind) (by grind))
  have h2 := h2.mono (e64_le (M := 41) (by grind) (by grind))
  obtain ⟨o1, x1, n1, j1, l1⟩ := v1.narrow (M := 42) ⟨by have := h1.1; have := b1.1; grind, by have := h1.2; have := b1.2; grind⟩ (big60 (by decide +kernel))
  obtain ⟨o2, x2, n2, j2, l2⟩ := v2.narrow (M := 42) ⟨by have := h2.1; have := b2.1; grind, by have := h2.2; have := b2.2; grind⟩ (big60 (by decide +kernel))
  have l1 := l1.mono (er_le _)
  have l2 := l2.mono (er_le _)
  have le : e32 42 ≤ 51 / 10000000 := by decide +kernel
  refine ⟨(x1, x2), ?_, ⟨j1.fv, j2.fv⟩, ?_, ?_⟩
  · unfold i_QuotientOf i_ConjugateOf i_longProduct i_power i_mul64
    simp only [olet_eq, obind_eq, obind2_eq]
    rw [n1, obind_eq, n2, obind_eq]
  · show Ab (vl x1 - q.1) _
    rw [j1.vl]
    exact (abTri l1 (abTri h1 a1)).mono (by grind)
  · show Ab (vl x2 - q.2) _
    rw [j2.vl]
    exact (abTri l2 (abTri h2 a2)).mono (by grind)
theorem mul_dy {x : F} {y : F × F} {r a b : Int} (hx : Dy .f32 4 r x) (h1 : Dy .f32 2 a y.1) (h2 : Dy .f32 2 b y.2) (br : r.natAbs ≤ 96) (ba : a.natAbs ≤ 8) (bb : b.natAbs ≤ 8) :
    ∃ z : F × F, i_MulComplex x (some 0) y.1 y.2 = some (z.1, z.2) ∧ Dy .f32 6 (r * a) z.1 ∧ Dy .f32 6 (r * b) z.2 := by
  have hd : (2 : Nat) ^ dgn .f64 = 9007199254740992 := by decide
  have hz : Dy .f64 4 0 (fwiden (some 0)) := (Dy.zero .f32 (s := 4) (by decide)).widen
  have e1 : (r * a).natAbs ≤ 768 := by rw [Int.natAbs_mul]; exact Nat.le_trans (Nat.mul_le_mul br ba) (by decide)
  have e2 : (r * b).natAbs ≤ 768 := by rw [Int.natAbs_mul]; exact Nat.le_trans (Nat.mul_le_mul br bb) (by decide)
  have p1 := hx.widen.mul h1.widen (by decide) (by omega)
  have p2 := hz.mul h2.widen (by decide) (by omega)
  have p3 := hx.widen.mul h2.widen (by decide) (by omega)
  have p4 := hz.mul h1.widen (by decide) (by omega)
  rw [Int.zero_mul] at p2 p4
  have s1 := p1.sub p2 (by omega)
  have s2 := p3.add p4 (by omega)
  rw [Int.sub_zero] at s1
  rw [Int.add_zero] at s2
  obtain ⟨z1, n1, d1⟩ := s1.narrow (by decide) (by omega)
  obtain ⟨z2, n2, d2⟩ := s2.narrow (by decide) (by omega)
  refine ⟨(z1, z2), ?_, d1, d2⟩
  unfold i_MulComplex i_longProduct i_mul64
  simp only [olet_eq, obind_eq, obind2_eq]
  rw [n1, obind_eq, n2, obind_eq]
structure Rng (R : List (F × F)) (n : Nat) (r : Nat → Int) : Prop where
  len : R.length = n
  d : ∀ k, k < n → Dy .f32 4 (r k) (R.getD k (none, none)).1 ∧ (R.getD k (none, none)).2 = some 0
  b0 : r 0 = 96
  b : ∀ k, 0 < k → k < n → (r k).natAbs ≤ 4
structure Vct (V : List (F × F)) (n : Nat) (a b : Nat → Int) : Prop where
  len : V.length = n
  d : ∀ k, k < n → Dy .f32 2 (a k) (V.getD k (none, none)).1 ∧ Dy .f32 2 (b k) (V.getD k (none, none)).2
  b : ∀ k, k < n → (a k).natAbs ≤ 8 ∧ (b k).natAbs ≤ 8
theorem Rng.le {R : List (F × F)} {n : Nat} {r : Nat → Int} (h : Rng R n r) {k : Nat} (hk : k < n) : (r k).natAbs ≤ 96 := by
  by_cases h0 : k = 0
  · subst h0; rw [h.b0]; decide
  · have := h.b k (by omega) hk; omega
theorem zero_fv2 : vl (some 0) = 0 := fv_zero.2
theorem times_csum {R V : List (F × F)} {n i : Nat} {r a b : Nat → Int} (hR : Rng R n r) (hV : Vct V n a b) (hn : n ≤ 9) (hi : i < n) : ∀ k, k ≤ n →
    ∃ (s : F × F) (A B : Int), csum (fun k => R.getD ((i + n - k) % n) (none, none)) (fun k => V.getD k (none, none)) k = some s ∧ Dy .f32 6 A s.1 ∧ Dy .f32 6 B s.2 ∧ A.natAbs ≤ 768 * k ∧ B.natAbs ≤ 768 * k ∧
      cxv s = cxS (fun j => cxM (cxv (R.getD ((i + n - j) % n) (none, none))) (cxv (V.getD j (none, none)))) k
  | 0, _ => by
    refine ⟨(some 0, some 0), 0, 0, rfl, Dy.zero .f32 (by decide), Dy.zero .f32 (by decide), by decide, by decide, ?_⟩
    unfold cxv cxS
    simp only [rs]
    rw [zero_fv2]
  | k + 1, hk => by
    obtain ⟨s, A, B, e, d1, d2, b1, b2, hv⟩ := times_csum hR hV hn hi k (by omega)
    have hx : (i + n - k) % n < n := Nat.mod_lt _ (by omega)
    generalize hg : (i + n - k) % n = g at *
    obtain ⟨x1, x2⟩ := hR.d g hx
    obtain ⟨y1, y2⟩ := hV.d k (by omega)
    obtain ⟨c1, c2⟩ := hV.b k (by omega)
    obtain ⟨z, z1, z2, z3⟩ := mul_dy x1 y1 y2 (hR.le hx) c1 c2
    have m1 : (r g * a k).natAbs ≤ 768 := by rw [Int.natAbs_mul]; exact Nat.le_trans (Nat.mul_le_mul (hR.le hx) c1) (by decide)
    have m2 : (r g * b k).natAbs ≤ 768 := by rw [Int.natAbs_mul]; exact Nat.le_trans (Nat.mul_le_mul (hR.le hx) c2) (by decide)
    have hd : (2 : Nat) ^ dgn .f32 = 16777216 := by decide
    have s1 := d1.add z2 (by omega)
    have s2 := d2.add z3 (by omega)
    refine ⟨(fop .add .f32 s.1 z.1, fop .add .f32 s.2 z.2), A + r g * a k, B + r g * b k, ?_, s1, s2, by omega, by omega, ?_⟩
    · show obind (csum _ _ k) _ = _
      rw [e, obind_eq]
      show obind2 (i_MulComplex (R.getD ((i + n - k) % n) (none, none)).1 (R.getD ((i + n - k) % n) (none, none)).2 (V.getD k (none, none)).1 (V.getD k (none, none)).2) _ = _
      rw [hg, x2, z1, obind2_eq]
      rfl
    · have v1 := s1.fv.2
      have v2 := s2.fv.2
      unfold cxv at hv ⊢
      rw [v1, v2]
      have w1 := congrArg Prod.fst hv
      have w2 := congrArg Prod.snd hv
      simp only [] at w1 w2
      rw [d1.fv.2] at w1
      rw [d2.fv.2] at w2
      unfold cxS at w1 w2 ⊢
      simp only [] at w1 w2
      refine Prod.ext ?_ ?_
      · show _ = rs (fun j => (cxM (vl (R.getD ((i + n - j) % n) (none, none)).1, vl (R.getD ((i + n - j) % n) (none, none)).2) (vl (V.getD j (none, none)).1, vl (V.getD j (none, none)).2)).1) k + (cxM (vl (R.getD ((i + n - k) % n) (none, none)).1, vl (R.getD ((i + n - k) % n) (none, none)).2) (vl (V.getD k (none, none)).1, vl (V.getD k (none, none)).2)).1
        rw [← w1, hg, x2, zero_fv2, x1.fv.2, y1.fv.2, y2.fv.2]
        unfold cxM
        simp only []
        rw [Rat.intCast_add, Rat.intCast_mul]
        have e2 : (2 : Rat) ^ 2 = 4 := by decide +kernel
        have e4 : (2 : Rat) ^ 4 = 16 := by decide +kernel
        have e6 : (2 : Rat) ^ 6 = 64 := by decide +kernel
        rw [e2, e4, e6]
        grind
      · show _ = rs (fun j => (cxM (vl (R.getD ((i + n - j) % n) (none, none)).1, vl (R.getD ((i + n - j) % n) (none, none)).2) (vl (V.getD j (none, none)).1, vl (V.getD j (none, none)).2)).2) k + (cxM (vl (R.getD ((i + n - k) % n) (none, none)).1, vl (R.getD ((i + n - k) % n) (none, none)).2) (vl (V.getD k (none, none)).1, vl (V.getD k (none, none)).2)).2
        rw [← w2, hg, x2, zero_fv2, x1.fv.2, y1.fv.2, y2.fv.2]
        unfold cxM
        simp only []
        rw [Rat.intCast_add, Rat.intCast_mul]
        have e2 : (2 : Rat) ^ 2 = 4 := by decide +kernel
        have e4 : (2 : Rat) ^ 4 = 16 := by decide +kernel
        have e6 : (2 : Rat) ^ 6 = 64 := by decide +kernel
        rw [e2, e4, e6]
        grind
theorem rs_const (c : Rat) : ∀ n : Nat, rs (fun _ => c) n = (n : Rat) * c
  | 0 => by simp [rs]
  | n + 1 => by unfold rs; rw [rs_const c n]; push_cast; grind
theorem fit_times {n i j : Nat} (hi : i < n) (hj : j < n) (h : j ≠ i) : 0 < (i + n - j) % n := by
  by_cases h2 : j < i
  · rw [show i + n - j = (i - j) + n from by omega, Nat.add_mod_right, Nat.mod_eq_of_lt (by omega)]; omega
  · rw [Nat.mod_eq_of_lt (by omega)]; omega
theorem Rng.v {R : List (F × F)} {n : Nat} {r : Nat → Int} (h : Rng R n r) {k : Nat} (hk : k < n) : CFv (R.getD k (none, none)) ∧ Ab (vl (R.getD k (none, none)).1) (if k = 0 then 6 else 1 / 4) ∧ vl (R.getD k (none, none)).2 = 0 := by
  obtain ⟨d1, d2⟩ := h.d k hk
  obtain ⟨f, v⟩ := d1.fv
  have e4 : (2 : Rat) ^ 4 = ((16 : Nat) : Rat) := by decide +kernel
  refine ⟨⟨f, by rw [d2]; exact fv_zero.1⟩, ?_, by rw [d2]; exact zero_fv2⟩
  rw [v, e4]
  by_cases h0 : k = 0
  · subst h0; rw [if_pos rfl]
    exact ab_div (e := 96) (by decide) (by rw [h.b0]; decide) (by decide +kernel)
  · rw [if_neg h0]
    exact ab_div (e := 4) (by decide) (h.b k (by omega) hk) (by decide +kernel)
theorem Vct.v {V : List (F × F)} {n : Nat} {a b : Nat → Int} (h : Vct V n a b) {k : Nat} (hk : k < n) : CFv (V.getD k (none, none)) ∧ cxB (cxv (V.getD k (none, none))) 2 := by
  obtain ⟨d1, d2⟩ := h.d k hk
  obtain ⟨b1, b2⟩ := h.b k hk
  obtain ⟨f1, v1⟩ := d1.fv
  obtain ⟨f2, v2⟩ := d2.fv
  have e4 : (2 : Rat) ^ 2 = ((4 : Nat) : Rat) := by decide +kernel
  refine ⟨⟨f1, f2⟩, ?_, ?_⟩
  · show Ab (vl _) 2
    rw [v1, e4]; exact ab_div (e := 8) (by decide) b1 (by decide +kernel)
  · show Ab (vl _) 2
    rw [v2, e4]; exact ab_div (e := 8) (by decide) b2 (by decide +kernel)
theorem ring_all {l : List (F × F)} {n : Nat} (hl : l.length = n) (h0 : 0 < n) (h9 : n ≤ 9) (f : ∀ k, k < n → CFv (l.getD k (none, none))) : i_isRing l = some true :=
  isRing_fv (by omega) (by omega) fun z hz => by
    obtain ⟨i, hi, rfl⟩ := List.mem_iff_getElem.1 hz
    have := f i (by rw [← hl]; exact hi)
    rwa [show l.getD i (none, none) = l[i] from by simp [List.getD, hi]] at this
theorem times_in {R V : List (F × F)} {n i : Nat} (hR : R.length = n) (hV : V.length = n) (h9 : n ≤ 9) (hi : i < n)
    (hc : ∀ k, k ≤ n → ∃ z, csum (fun k => R.getD ((i + n - k) % n) (none, none)) (fun k => V.getD k (none, none)) k = some z) :
    loopM (i_RingTimes_s2 R V (i : Int)) (some 0, some 0, 0) = some (.inl ((cval (fun k => R.getD ((i + n - k) % n) (none, none)) (fun k => V.getD k (none, none)) n).1, (cval (fun k => R.getD ((i + n - k) % n) (none, none)) (fun k => V.getD k (none, none)) n).2)) := by
  refine loop_go (step := i_RingTimes_s2 R V (i : Int)) (fun j : Nat => ((cval (fun k => R.getD ((i + n - k) % n) (none, none)) (fun k => V.getD k (none, none)) j).1, (cval (fun k => R.getD ((i + n - k) % n) (none, none)) (fun k => V.getD k (none, none)) j).2, (j : Int))) n 0 (fun j _ hj => ?_) ?_
  · have hj : j < n := by omega
    obtain ⟨a, b, e1, e2⟩ := csum_succ (hc j (by omega)) (hc (j + 1) (by omega))
    show i_RingTimes_b2 R V (i : Int) _ _ (j : Int) = _
    unfold i_RingTimes_b2
    have hx : (i + n - j) % n < n := Nat.mod_lt _ (by omega)
    have ix : IntKind.i64.wrap (IntKind.i64.wrap ((i : Int) - (j : Int)) + (n : Int)) = ((i + n - j : Nat) : Int) := by
      rw [show IntKind.i64.wrap ((i : Int) - (j : Int)) = (i : Int) - (j : Int) from wi64 (by omega) (by omega), wi64 (by omega) (by omega)]; omega
    have tx : Int.tmod ((i + n - j : Nat) : Int) (n : Int) = (((i + n - j) % n : Nat) : Int) := rfl
    rw [hV, hR, dlt hj, bsel_true, at?_n (none, none) (by omega), obind_eq, olet_eq, olet_eq, decide_eq_false (by omega), Bool.not_false, need_true, ix, tx, olet_eq, at?_n (none, none) (by omega), obind_eq, e1, obind2_eq, e2, obind2_eq, wsucc (by omega), olet_eq]
  · show i_RingTimes_b2 R V (i : Int) _ _ ((0 + n : Nat) : Int) = _
    unfold i_RingTimes_b2
    rw [hV, Nat.zero_add, dnlt, bsel_false]
theorem times_ok {R V : List (F × F)} {n : Nat} {r a b : Nat → Int} (hR : Rng R n r) (hV : Vct V n a b) (n0 : 0 < n) (n9 : n ≤ 9) :
    ∃ T, i_RingTimes R V = some (true, T) ∧ T.length = n ∧ ∀ i, i < n → CFv (T.getD i (none, none)) ∧ cxv (T.getD i (none, none)) = cxS (fun j => cxM (cxv (R.getD ((i + n - j) % n) (none, none))) (cxv (V.getD j (none, none)))) n := by
  have hc : ∀ i, i < n → ∀ k, k ≤ n → ∃ z, csum (fun k => R.getD ((i + n - k) % n) (none, none)) (fun k => V.getD k (none, none)) k = some z := fun i hi k hk => by
    obtain ⟨s, _, _, e, _⟩ := times_csum hR hV n9 hi k hk
    exact ⟨s, e⟩
  have hT : ∀ i, i < n → CFv (((List.range n).map fun i => cval (fun k => R.getD ((i + n - k) % n) (none, none)) (fun k => V.getD k (none, none)) n).getD i (none, none)) ∧ cxv (((List.range n).map fun i => cval (fun k => R.getD ((i + n - k) % n) (none, none)) (fun k => V.getD k (none, none)) n).getD i (none, none)) = cxS (fun j => cxM (cxv (R.getD ((i + n - j) % n) (none, none))) (cxv (V.getD j (none, none)))) n := by
    intro i hi
    obtain ⟨s, _, _, e, d1, d2, _, _, hv⟩ := times_csum hR hV n9 hi n (Nat.le_refl _)
    rw [getD_mapR _ hi]
    unfold cval
    rw [e]
    exact ⟨⟨d1.fv.1, d2.fv.1⟩, hv⟩
  refine ⟨(List.range n).map fun i => cval (fun k => R.getD ((i + n - k) % n) (none, none)) (fun k => V.getD k (none, none)) n, ?_, by simp, hT⟩
  unfold i_RingTimes i_areRings
  rw [ring_all hR.len n0 n9 (fun k hk => (hR.v hk).1), obind_eq, bsel_true, ring_all hV.len n0 n9 (fun k hk => (hV.v hk).1), obind_eq, bsel_true, hR.len, hV.len, decide_eq_true rfl, obind_eq, bsel_true]
  have e : loopM (i_RingTimes_s3 R V) ([], 0) = some (.inl ((List.range n).map fun i => cval (fun k => R.getD ((i + n - k) % n) (none, none)) (fun k => V.getD k (none, none)) n)) := by
    refine loop_go (step := i_RingTimes_s3 R V) (fun j : Nat => ((List.range j).map fun i => cval (fun k => R.getD ((i + n - k) % n) (none, none)) (fun k => V.getD k (none, none)) n, (j : Int))) n 0 (fun j _ hj => ?_) ?_
    · have hj : j < n := by omega
      show i_RingTimes_b3 R V _ (j : Int) = _
      unfold i_RingTimes_b3
      rw [hR.len, dlt hj, bsel_true, times_in hR.len hV.len n9 hj (hc j hj), obind_eq, osum_inl]
      unfold i_RingTimes_k2
      rw [show apok 8 ((List.range j).map fun i => cval (fun k => R.getD ((i + n - k) % n) (none, none)) (fun k => V.getD k (none, none)) n).length 1 = true from by simp [apok]; omega, need_true, wsucc (by omega), olet_eq, List.range_succ, List.map_append]
      rfl
    · show i_RingTimes_b3 R V _ ((0 + n : Nat) : Int) = _
      unfold i_RingTimes_b3
      rw [hR.len, Nat.zero_add, dnlt, bsel_false]
  rw [e, obind_eq, osum_inl]
  unfold i_RingTimes_k3
  rw [ring_all (by simp) n0 n9 (fun k hk => (hT k hk).1), obind_eq, bsel_true]
theorem times_le {R V : List (F × F)} {n i : Nat} {r a b : Nat → Int} (hR : Rng R n r) (hV : Vct V n a b) (hi : i < n) (n9 : n ≤ 9) : cxB (cxS (fun j => cxM (cxv (R.getD ((i + n - j) % n) (none, none))) (cxv (V.getD j (none, none)))) n) 16 := by
  have h : ∀ j, j < n → cxB (cxM (cxv (R.getD ((i + n - j) % n) (none, none))) (cxv (V.getD j (none, none)))) (1 / 2 + 23 / 2 * (if j = i then 1 else 0)) := by
    intro j hj
    have hx : (i + n - j) % n < n := Nat.mod_lt _ (by omega)
    obtain ⟨_, h1, h2⟩ := hR.v hx
    obtain ⟨_, b1, b2⟩ := hV.v hj
    have c1 := h1.mul b1
    have c2 := h1.mul b2
    have hw : (if (i + n - j) % n = 0 then (6 : Rat) else 1 / 4) * 2 ≤ 1 / 2 + 23 / 2 * (if j = i then 1 else 0) := by
      by_cases hji : j = i
      · rw [if_pos hji]; split <;> grind
      · rw [if_neg hji, if_neg (by have := fit_times hi hj hji; omega)]; grind
    constructor
    · show Ab (vl _ * _ - vl _ * _) _
      rw [h2, Rat.zero_mul, show ∀ x : Rat, x - 0 = x from fun x => by grind]
      exact c1.mono hw
    · show Ab (vl _ * _ + vl _ * _) _
      rw [h2, Rat.zero_mul, show ∀ x : Rat, x + 0 = x from fun x => by grind]
      exact c2.mono hw
  refine (cxS_B h).mono ?_
  have e := rs_delta (fun _ => 23 / 2) i n
  rw [if_pos hi] at e
  rw [rs_add, rs_const, e]
  have : (n : Rat) ≤ 9 := by exact_mod_cast n9
  grind
theorem spc_near {ys : List (F × F)} {n : Nat} {v : Nat → Rat × Rat} {d : Rat} (n0 : 0 < n) (n9 : n ≤ 9) (hl : ys.length = n) (hv : ∀ k, k < n → cxB (v k) 2) (hd : d ≤ 1 / 100)
    (h : ∀ m, m < n → CFv (ys.getD m (none, none)) ∧ cxB (cxD (cxv (ys.getD m (none, none))) (cxS (fun k => cxM (v k) (pcx n true (k * m))) n)) d) :
    Spc ys n (fun _ => 4 * (n : Rat) + 1 / 100) (fun _ => 4 * (n : Rat) + 1 / 100) ((n : Rat) * (8 * (n : Rat) + 1 / 50)) ∧ ∀ m, m < n → cxB (cxS (fun k => cxM (v k) (pcx n true (k * m))) n) (4 * (n : Rat)) := by
  have n9' : (n : Rat) ≤ 9 := by exact_mod_cast n9
  have n0' : (0 : Rat) ≤ (n : Rat) := by exact_mod_cast Nat.zero_le n
  have hV : ∀ m, m < n → cxB (cxS (fun k => cxM (v k) (pcx n true (k * m))) n) (4 * (n : Rat)) := fun m hm =>
    (cxS_Bn fun k hk => cxB.mul (hv k hk) (pcx_one (by omega) hk hm)).mono (by grind)
  refine ⟨⟨hl, n0, n9, fun k hk => ?_, fun k hk => ?_, ?_⟩, hV⟩
  · obtain ⟨f, g⟩ := h k hk
    have := (cxB.abt g (hV k hk)).mono (show 4 * (n : Rat) + d ≤ 4 * (n : Rat) + 1 / 100 by grind)
    exact ⟨f, this.1, this.2, by grind, by grind⟩
  · rw [rs_const]
    have hk' : (k : Rat) ≤ (n : Rat) := by exact_mod_cast hk
    have := Rat.mul_le_mul_of_nonneg_right hk' (show 0 ≤ 8 * (n : Rat) + 1 / 50 by grind)
    grind
  · have := Rat.mul_le_mul_of_nonneg_right n9' (show 0 ≤ 8 * (n : Rat) + 1 / 50 by grind)
    grind
theorem ph_zero : ∀ n, n < 10 → 0 < n → phAt n true 0 = (2 ^ 149, 0) := by decide +kernel
theorem spc_ring {R : List (F × F)} {n : Nat} {r : Nat → Int} (hR : Rng R n r) (n0 : 0 < n) (n9 : n ≤ 9) : Spc R n (fun k => if k = 0 then 6 else 1 / 4) (fun _ => 0) 8 := by
  refine ⟨hR.len, n0, n9, fun k hk => ?_, fun k hk => ?_, by decide +kernel⟩
  · obtain ⟨f, a, b⟩ := hR.v hk
    refine ⟨f, a, by rw [b]; exact ⟨by grind, by grind⟩, ?_, by decide +kernel⟩
    show (if k = 0 then (6 : Rat) else 1 / 4) ≤ 10000
    split <;> decide +kernel
  · have h : ∀ k : Nat, rs (fun j => (if j = 0 then (6 : Rat) else 1 / 4) + 0) (k + 1) = 6 + (k : Rat) / 4 := by
      intro k
      induction k with
      | zero => simp [rs]; grind
      | succ k ih => unfold rs; rw [ih, if_neg (by omega)]; push_cast; grind
    cases k with
    | zero => simp only [rs]; decide
    | succ k =>
      have e := h k
      have : (k : Rat) ≤ 8 := by exact_mod_cast (show k ≤ 8 by omega)
      rw [e]; grind
theorem ring_range {R : List (F × F)} {n m : Nat} {r : Nat → Int} (hR : Rng R n r) (n0 : 0 < n) (n9 : n ≤ 9) (hm : m < n) : cxB (cxD (cxS (fun l => cxM (cxv (R.getD l (none, none))) (pcx n true (l * m))) n) (6, 0)) 2 := by
  obtain ⟨d, rfl⟩ : ∃ d, n = 1 + d := ⟨n - 1, by omega⟩
  have hz : cxM (cxv (R.getD 0 (none, none))) (pcx (1 + d) true (0 * m)) = (6, 0) := by
    obtain ⟨d1, d2⟩ := hR.d 0 n0
    have v := d1.fv.2
    rw [hR.b0] at v
    have v : vl (R.getD 0 (none, none)).1 = 6 := by rw [v]; decide +kernel
    rw [Nat.zero_mul]
    unfold cxv pcx cxM
    rw [ph_zero _ (by omega) n0, v, d2, zero_fv2]
    simp only []
    refine Prod.ext ?_ ?_ <;> decide +kernel
  have hd : (d : Rat) ≤ 8 := by exact_mod_cast (show d ≤ 8 by omega)
  have hl : ∀ j, j < d → cxB (cxM (cxv (R.getD (1 + j) (none, none))) (pcx (1 + d) true ((1 + j) * m))) (1 / 4) := by
    intro j hj
    obtain ⟨_, h1, h2⟩ := hR.v (k := 1 + j) (by omega)
    rw [if_neg (by omega)] at h1
    obtain ⟨o1, o2⟩ := pcx_one (n := 1 + d) (k := 1 + j) (m := m) (s := true) (by omega) (by omega) hm
    have c1 := h1.mul o1
    have c2 := h1.mul o2
    constructor
    · show Ab (vl _ * _ - vl _ * _) _
      rw [h2, Rat.zero_mul, show ∀ x : Rat, x - 0 = x from fun x => by grind]
      exact c1.mono (by grind)
    · show Ab (vl _ * _ + vl _ * _) _
      rw [h2, Rat.zero_mul, show ∀ x : Rat, x + 0 = x from fun x => by grind]
      exact c2.mono (by grind)
  have b := cxS_Bn hl
  unfold cxS at *
  unfold cxD
  simp only []
  rw [rs_split _ 1 d, rs_split _ 1 d]
  have a1 : rs (fun j => (cxM (cxv (R.getD j (none, none))) (pcx (1 + d) true (j * m))).1) 1 = 6 := by
    show (0 : Rat) + (cxM (cxv (R.getD 0 (none, none))) (pcx (1 + d) true (0 * m))).1 = 6
    rw [hz]; decide +kernel
  have a2 : rs (fun j => (cxM (cxv (R.getD j (none, none))) (pcx (1 + d) true (j * m))).2) 1 = 0 := by
    show (0 : Rat) + (cxM (cxv (R.getD 0 (none, none))) (pcx (1 + d) true (0 * m))).2 = 0
    rw [hz]; decide +kernel
  rw [a1, a2]
  constructor
  · have := b.1
    exact ⟨by have := this.1; simp only [] at this; grind, by have := this.2; simp only [] at this; grind⟩
  · have := b.2
    exact ⟨by have := this.1; simp only [] at this; grind, by have := this.2; simp only [] at this; grind⟩
theorem sq_range {x y : Rat} (hx : 399 / 100 ≤ x) (hy : Ab y (201 / 100)) : 0 < x * x + y * y ∧ x + y ≤ 31 / 100 * (x * x + y * y) ∧ x - y ≤ 31 / 100 * (x * x + y * y) := by
  have a := Rat.mul_nonneg (a := x - 399 / 100) (b := 31 / 100 * x + 2369 / 10000) (by grind) (by grind)
  have sq : ∀ z : Rat, 0 ≤ z * z := fun z => by
    by_cases h : 0 ≤ z
    · exact Rat.mul_nonneg h h
    · have := Rat.mul_nonneg (a := -z) (b := -z) (by grind) (by grind); grind
  have b := sq (y - 1613 / 1000)
  have c := sq (y + 1613 / 1000)
  have d := sq y
  have e := Rat.mul_nonneg (a := x - 399 / 100) (b := x) (by grind) (by grind)
  exact ⟨by grind, by grind, by grind⟩
theorem quot_cx {A R V q : Rat × Rat} {X : Rat} (h1 : 399 / 100 ≤ R.1) (h2 : Ab R.2 (201 / 100)) (hU : cxB (cxD A (cxM R V)) X)
    (q1 : q.1 * (R.1 * R.1 + R.2 * R.2) = A.1 * R.1 + A.2 * R.2) (q2 : q.2 * (R.1 * R.1 + R.2 * R.2) = A.2 * R.1 - A.1 * R.2) : cxB (cxD q V) (31 / 100 * X) := by
  obtain ⟨s0, s1, s2⟩ := sq_range h1 h2
  have X0 := hU.1.nonneg
  have u1 := hU.1
  have u2 := hU.2
  unfold cxD cxM at u1 u2
  simp only [] at u1 u2
  generalize hU1 : A.1 - (R.1 * V.1 - R.2 * V.2) = U1 at *
  generalize hU2 : A.2 - (R.1 * V.2 + R.2 * V.1) = U2 at *
  have hy : ∃ y, Ab R.2 y ∧ R.1 + y ≤ 31 / 100 * (R.1 * R.1 + R.2 * R.2) := by
    by_cases h : 0 ≤ R.2
    · exact ⟨R.2, ⟨by grind, by grind⟩, s1⟩
    · exact ⟨-R.2, ⟨by grind, by grind⟩, by grind⟩
  obtain ⟨y, y1, y2⟩ := hy
  have rx : Ab R.1 R.1 := ⟨by grind, Rat.le_refl⟩
  have lX := Rat.mul_le_mul_of_nonneg_left y2 X0
  have key : ∀ t : Rat, Ab (t * (R.1 * R.1 + R.2 * R.2)) (X * R.1 + X * y) → Ab t (31 / 100 * X) := by
    intro t ht
    have ht := ht.mono (f := 31 / 100 * X * (R.1 * R.1 + R.2 * R.2)) (by grind)
    generalize R.1 * R.1 + R.2 * R.2 = D at *
    exact ⟨Rat.le_of_mul_le_mul_right (c := D) (by have := ht.1; grind) s0, Rat.le_of_mul_le_mul_right (c := D) ht.2 s0⟩
  constructor
  · show Ab (q.1 - V.1) _
    refine key _ ?_
    have e : (q.1 - V.1) * (R.1 * R.1 + R.2 * R.2) = U1 * R.1 + U2 * R.2 := by rw [← hU1, ← hU2]; grind
    rw [e]; exact (u1.mul rx).add (u2.mul y1)
  · show Ab (q.2 - V.2) _
    refine key _ ?_
    have e : (q.2 - V.2) * (R.1 * R.1 + R.2 * R.2) = U2 * R.1 - U1 * R.2 := by rw [← hU1, ← hU2]; grind
    rw [e]; exact (u2.mul rx).sub (u1.mul y1)
theorem sE_288 {n : Rat} (h0 : 0 ≤ n) (h : n ≤ 9) : sE n 288 ≤ 19 / 100000 := by unfold sE; grind
theorem sE_8 {n : Rat} (h0 : 0 ≤ n) (h : n ≤ 9) : sE n 8 ≤ 54 / 10000000 := by unfold sE; grind
theorem cxDs {a b : Rat × Rat} {e : Rat} (h : cxB (cxD a b) e) : cxB (cxD b a) e :=
  ⟨by have := h.1.neg; unfold cxD at *; simp only [] at *; exact ⟨by have := this.1; grind, by have := this.2; grind⟩,
   by have := h.2.neg; unfold cxD at *; simp only [] at *; exact ⟨by have := this.1; grind, by have := this.2; grind⟩⟩
theorem solve_ok {R V T : List (F × F)} {n : Nat} {r a b : Nat → Int} (hR : Rng R n r) (hV : Vct V n a b) (n0 : 0 < n) (n9 : n ≤ 9) (hl : T.length = n)
    (hT : ∀ i, i < n → CFv (T.getD i (none, none)) ∧ cxv (T.getD i (none, none)) = cxS (fun j => cxM (cxv (R.getD ((i + n - j) % n) (none, none))) (cxv (V.getD j (none, none)))) n) :
    ∃ zs, i_RingSolve R T = some (true, zs) ∧ zs.length = n ∧ ∀ j, j < n → CFv (zs.getD j (none, none)) ∧ cxB (cxD (cxv (zs.getD j (none, none))) (cxv (V.getD j (none, none)))) (4999 / 10000000) := by
  have n9' : (n : Rat) ≤ 9 := by exact_mod_cast n9
  have n0' : (0 : Rat) ≤ (n : Rat) := by exact_mod_cast Nat.zero_le n
  have n1' : (1 : Rat) ≤ (n : Rat) := by exact_mod_cast n0
  have tb : ∀ i, i < n → cxB (cxv (T.getD i (none, none))) 16 := fun i hi => by rw [(hT i hi).2]; exact times_le hR hV hi n9
  have sT : Spc T n (fun _ => 16) (fun _ => 16) 288 := ⟨hl, n0, n9, fun k hk => ⟨(hT k hk).1, (tb k hk).1, (tb k hk).2, by decide +kernel, by decide +kernel⟩, fun k hk => by
    rw [rs_const]
    have : (k : Rat) ≤ 9 := by exact_mod_cast (show k ≤ 9 by omega)
    grind, by decide +kernel⟩
  have sR := spc_ring hR n0 n9
  obtain ⟨A, eA, lA, fA⟩ := spectrum_ok sT
  obtain ⟨B, eB, lB, fB⟩ := spectrum_ok sR
  have vb : ∀ k, k < n → cxB (cxv (V.getD k (none, none))) 2 := fun k hk => (hV.v hk).2
  have key : ∀ m, m < n → ∃ z : F × F, i_QuotientOf (A.getD m (none, none)).1 (A.getD m (none, none)).2 (B.getD m (none, none)).1 (B.getD m (none, none)).2 = some (z.1, z.2) ∧ CFv z ∧ cxB (cxD (cxv z) (cxS (fun k => cxM (cxv (V.getD k (none, none))) (pcx n true (k * m))) n)) (204 / 1000000) := by
    intro m hm
    obtain ⟨f1, g1⟩ := fA m hm
    obtain ⟨f2, g2⟩ := fB m hm
    have g1 := g1.mono (sE_288 n0' n9')
    have g2 := g2.mono (sE_8 n0' n9')
    have hr2 := cxB.tri g2 (ring_range hR n0 n9 hm)
    have r1 : 399 / 100 ≤ vl (B.getD m (none, none)).1 := by
      have := hr2.1.1; unfold cxD cxv at this; simp only [] at this; grind
    have r1' : vl (B.getD m (none, none)).1 ≤ 10 := by
      have := hr2.1.2; unfold cxD cxv at this; simp only [] at this; grind
    have r2 : Ab (vl (B.getD m (none, none)).2) (201 / 100) := by
      have := hr2.2; unfold cxD cxv at this; simp only [] at this; exact ⟨by have := this.1; grind, by have := this.2; grind⟩
    have aS : cxB (cxS (fun k => cxM (cxv (T.getD k (none, none))) (pcx n true (k * m))) n) 288 :=
      (cxS_Bn fun k hk => cxB.mul (tb k hk) (pcx_one (by omega) hk hm)).mono (by grind)
    have a1 := (cxB.abt g1 aS).mono (show (288 : Rat) + 19 / 100000 ≤ 400 by decide +kernel)
    have vS : cxB (cxS (fun k => cxM (cxv (V.getD k (none, none))) (pcx n true (k * m))) n) 36 :=
      (cxS_Bn fun k hk => cxB.mul (vb k hk) (pcx_one (by omega) hk hm)).mono (by grind)
    have cv := conv_cx (n := n) (m := m) (r := fun k => cxv (R.getD k (none, none))) (v := fun k => cxv (V.getD k (none, none))) (p := fun k m => pcx n true (k * m)) (g := fun k => if k = 0 then 6 else 1 / 4) (B := 2) (e := 1 / 10000000) vb
      (fun l hl => by
        obtain ⟨_, h1, h2⟩ := hR.v hl
        refine ⟨h1, ?_⟩
        show Ab (vl _) _
        rw [h2]
        have := h1.nonneg
        exact ⟨by grind, this⟩) (fun k hk l hl => mult_cx (by omega) hm hk hl)
    rw [cxS_congr (g := fun i => cxM (cxv (T.getD i (none, none))) (pcx n true (i * m))) fun i hi => by rw [(hT i hi).2]] at cv
    have cv := cv.mono (show (n : Rat) * (rs (fun l => 2 * (2 * ((if l = 0 then 6 else 1 / 4) * 2) * (1 / 10000000))) n) ≤ 58 / 1000000 by
      have e : rs (fun l : Nat => 2 * (2 * ((if l = 0 then (6 : Rat) else 1 / 4) * 2) * (1 / 10000000))) n = 8 / 10000000 * rs (fun l => (if l = 0 then (6 : Rat) else 1 / 4) + 0) n := by
        rw [← rs_mul]; exact rs_congr fun j _ => by grind
      have s := sR.sum n (Nat.le_refl _)
      have s : rs (fun l => (if l = 0 then (6 : Rat) else 1 / 4) + 0) n ≤ 8 := s
      rw [e]
      have := Rat.mul_le_mul_of_nonneg_left s n0'
      grind)
    have dR : cxB (cxD (cxM (cxS (fun l => cxM (cxv (R.getD l (none, none))) (pcx n true (l * m))) n) (cxS (fun k => cxM (cxv (V.getD k (none, none))) (pcx n true (k * m))) n)) (cxM (cxv (B.getD m (none, none))) (cxS (fun k => cxM (cxv (V.getD k (none, none))) (pcx n true (k * m))) n))) (389 / 1000000) := by
      rw [cxM_Dl]
      exact (cxB.mul (cxDs g2) vS).mono (by decide +kernel)
    have hX := (cxB.tri (cxB.tri g1 cv) dR).mono (show (19 : Rat) / 100000 + 58 / 1000000 + 389 / 1000000 ≤ 637 / 1000000 by decide +kernel)
    obtain ⟨s0, _, _⟩ := sq_range r1 r2
    have q1 : (vl (A.getD m (none, none)).1 * vl (B.getD m (none, none)).1 + vl (A.getD m (none, none)).2 * vl (B.getD m (none, none)).2) / (vl (B.getD m (none, none)).1 * vl (B.getD m (none, none)).1 + vl (B.getD m (none, none)).2 * vl (B.getD m (none, none)).2) * (vl (B.getD m (none, none)).1 * vl (B.getD m (none, none)).1 + vl (B.getD m (none, none)).2 * vl (B.getD m (none, none)).2) = vl (A.getD m (none, none)).1 * vl (B.getD m (none, none)).1 + vl (A.getD m (none, none)).2 * vl (B.getD m (none, none)).2 := div_mul_pos s0
    have q2 : (vl (A.getD m (none, none)).2 * vl (B.getD m (none, none)).1 - vl (A.getD m (none, none)).1 * vl (B.getD m (none, none)).2) / (vl (B.getD m (none, none)).1 * vl (B.getD m (none, none)).1 + vl (B.getD m (none, none)).2 * vl (B.getD m (none, none)).2) * (vl (B.getD m (none, none)).1 * vl (B.getD m (none, none)).1 + vl (B.getD m (none, none)).2 * vl (B.getD m (none, none)).2) = vl (A.getD m (none, none)).2 * vl (B.getD m (none, none)).1 - vl (A.getD m (none, none)).1 * vl (B.getD m (none, none)).2 := div_mul_pos s0
    generalize (vl (A.getD m (none, none)).1 * vl (B.getD m (none, none)).1 + vl (A.getD m (none, none)).2 * vl (B.getD m (none, none)).2) / (vl (B.getD m (none, none)).1 * vl (B.getD m (none, none)).1 + vl (B.getD m (none, none)).2 * vl (B.getD m (none, none)).2) = p1 at *
    generalize (vl (A.getD m (none, none)).2 * vl (B.getD m (none, none)).1 - vl (A.getD m (none, none)).1 * vl (B.getD m (none, none)).2) / (vl (B.getD m (none, none)).1 * vl (B.getD m (none, none)).1 + vl (B.getD m (none, none)).2 * vl (B.getD m (none, none)).2) = p2 at *
    have hq := quot_cx (A := cxv (A.getD m (none, none))) (R := cxv (B.getD m (none, none))) (q := (p1, p2)) r1 r2 hX q1 q2
    have hq := hq.mono (show (31 : Rat) / 100 * (637 / 1000000) ≤ 198 / 1000000 by decide +kernel)
    have hq4 := (cxB.abt hq vS).mono (show (36 : Rat) + 198 / 1000000 ≤ 40 by decide +kernel)
    obtain ⟨z, z1, z2, z3⟩ := quot_ok (q := (p1, p2)) f1 f2 a1 ⟨⟨by show _ ≤ vl _; grind, r1'⟩, r2.mono (by decide +kernel)⟩ (by grind) q1 q2 hq4
    exact ⟨z, z1, z2, (cxB.tri z3 hq).mono (by decide +kernel)⟩
  have hQ : ∀ m, m < n → CFv (((List.range n).map fun m => ((i_QuotientOf (A.getD m (none, none)).1 (A.getD m (none, none)).2 (B.getD m (none, none)).1 (B.getD m (none, none)).2).getD (none, none))).getD m (none, none)) ∧ cxB (cxD (cxv (((List.range n).map fun m => ((i_QuotientOf (A.getD m (none, none)).1 (A.getD m (none, none)).2 (B.getD m (none, none)).1 (B.getD m (none, none)).2).getD (none, none))).getD m (none, none))) (cxS (fun k => cxM (cxv (V.getD k (none, none))) (pcx n true (k * m))) n)) (204 / 1000000) := by
    intro m hm
    obtain ⟨z, z1, z2, z3⟩ := key m hm
    rw [getD_mapR _ hm, z1]
    exact ⟨z2, z3⟩
  obtain ⟨sQ, _⟩ := spc_near n0 n9 (by simp) vb (by decide +kernel) hQ
  obtain ⟨zs, e, l, f⟩ := back_ok sQ (by
    have := Rat.mul_le_mul_of_nonneg_left n9' n0'
    grind) vb (by decide +kernel) (fun m hm => (hQ m hm).2)
  refine ⟨zs, ?_, l, fun j hj => ⟨(f j hj).1, (f j hj).2.mono (by decide +kernel)⟩⟩
  unfold i_RingSolve i_areRings
  rw [sR.ring, obind_eq, bsel_true, sT.ring, obind_eq, bsel_true, hR.len, hl, decide_eq_true rfl, obind_eq, bsel_true, eA, obind2_eq, bsel_true, eB, obind2_eq, bsel_true]
  have el : loopM (i_RingSolve_s1 A B) ([], 0) = some (.inl ((List.range n).map fun m => ((i_QuotientOf (A.getD m (none, none)).1 (A.getD m (none, none)).2 (B.getD m (none, none)).1 (B.getD m (none, none)).2).getD (none, none)))) := by
    refine loop_go (step := i_RingSolve_s1 A B) (fun i : Nat => ((List.range i).map fun m => ((i_QuotientOf (A.getD m (none, none)).1 (A.getD m (none, none)).2 (B.getD m (none, none)).1 (B.getD m (none, none)).2).getD (none, none)), (i : Int))) n 0 (fun j _ hj => ?_) ?_
    · have hj : j < n := by omega
      obtain ⟨z, z1, _⟩ := key j hj
      show i_RingSolve_b1 A B _ (j : Int) = _
      unfold i_RingSolve_b1
      rw [lA, dlt hj, bsel_true, at?_n (none, none) (by omega), obind_eq, at?_n (none, none) (by omega), obind_eq, z1, obind2_eq, show apok 8 ((List.range j).map fun m => ((i_QuotientOf (A.getD m (none, none)).1 (A.getD m (none, none)).2 (B.getD m (none, none)).1 (B.getD m (none, none)).2).getD (none, none))).length 1 = true from by simp [apok]; omega, need_true, wsucc (by omega), olet_eq, List.range_succ, List.map_append, List.map_singleton, z1]
      rfl
    · show i_RingSolve_b1 A B _ ((0 + n : Nat) : Int) = _
      unfold i_RingSolve_b1
      rw [lA, Nat.zero_add, dnlt, bsel_false]
  rw [el, obind_eq, osum_inl]
  unfold i_RingSolve_k1
  rw [e, obind2_eq]
theorem sixteenth_dy {n : Int} (h : n.natAbs ≤ 1000) : Dy .f32 4 n (fop .quo .f32 (fint .f32 n) (some 1098907648)) := by
  have hd : (2 : Nat) ^ dgn .f32 = 16777216 := by decide
  have h1 : Dy .f32 0 n (fint .f32 n) := Dy.int (by omega)
  have h2 := h1.scale (t := 4) (by decide)
  have h16 : Dy .f32 0 16 (some 1098907648) := ⟨_, rfl, by decide, by decide, by decide, by decide +kernel⟩
  exact Dy.quo (s := 4) (t := 0) (q := n) h2 h16 (by decide) (by omega) (by omega)
theorem six_dy : Dy .f32 4 96 (some 1086324736) := ⟨_, rfl, by decide, by decide, by decide, by decide +kernel⟩
structure SpD (k : Nat) (V R : List (F × F)) (N : List F) : Prop where
  lv : V.length = k
  lr : R.length = k
  ln : N.length = k
  v : ∀ i, i < k → ∃ a b : Int, Dy .f32 2 a (V.getD i (none, none)).1 ∧ Dy .f32 2 b (V.getD i (none, none)).2 ∧ a.natAbs ≤ 8 ∧ b.natAbs ≤ 8
  r : ∀ i, i < k → ∃ a : Int, Dy .f32 4 a (R.getD i (none, none)).1 ∧ (R.getD i (none, none)).2 = some 0 ∧ (i = 0 → a = 96) ∧ (0 < i → a.natAbs ≤ 4)
  n : ∀ i, i < k → N.getD i none = (R.getD i (none, none)).1
theorem getD_snocC {α : Type} {l : List α} {x d : α} {i k : Nat} (hl : l.length = k) (hi : i < k + 1) : (l ++ [x]).getD i d = if i = k then x else l.getD i d := by
  by_cases h : i = k
  · subst h; rw [if_pos rfl]; simp [List.getD, ← hl]
  · rw [if_neg h]; simp [List.getD, List.getElem?_append_left (show i < l.length by omega)]
theorem SpD.app {k : Nat} {V R : List (F × F)} {N : List F} (h : SpD k V R N) {x y z : F} {a b c : Int} (hx : Dy .f32 2 a x) (hy : Dy .f32 2 b y) (ha : a.natAbs ≤ 8) (hb : b.natAbs ≤ 8) (hz : Dy .f32 4 c z) (h0 : k = 0 → c = 96) (h1 : 0 < k → c.natAbs ≤ 4) :
    SpD (k + 1) (V ++ [(x, y)]) (R ++ [(z, some 0)]) (N ++ [z]) := by
  refine ⟨by simp [h.lv], by simp [h.lr], by simp [h.ln], fun i hi => ?_, fun i hi => ?_, fun i hi => ?_⟩
  · rw [getD_snocC h.lv hi]
    by_cases e : i = k
    · rw [if_pos e]; exact ⟨a, b, hx, hy, ha, hb⟩
    · rw [if_neg e]; exact h.v i (by omega)
  · rw [getD_snocC h.lr hi]
    by_cases e : i = k
    · rw [if_pos e]; subst e; exact ⟨c, hz, rfl, h0, h1⟩
    · rw [if_neg e]; exact h.r i (by omega)
  · rw [getD_snocC h.lr hi, getD_snocC h.ln hi]
    by_cases e : i = k
    · rw [if_pos e, if_pos e]
    · rw [if_neg e, if_neg e]; exact h.n i (by omega)
theorem spd_loop {a0 a1 : List Int} (b0 : Byt a0) (b1 : Byt a1) {n : Nat} (hn : n ≤ 9) : ∀ (m k : Nat) (V R : List (F × F)) (N : List F), k + m = n → SpD k V R N →
    ∃ V' R' N', SpD n V' R' N' ∧ loopM (w_FnSpectra_s3 a0 a1 (n : Int)) (V, R, N, (k : Int)) = some (.inl (V', R', N'))
  | 0, k, V, R, N, hk, h => by
    have : k = n := by omega
    subst this
    refine ⟨V, R, N, h, loopM_out ?_⟩
    show w_FnSpectra_b3 a0 a1 (k : Int) V R N (k : Int) = _
    unfold w_FnSpectra_b3
    rw [dnlt, bsel_false]
  | m + 1, k, V, R, N, hk, h => by
    obtain ⟨p, hp, ep⟩ := b10at b0 (k := k) (n := 17) (by decide) (by omega)
    obtain ⟨q, hq, eq⟩ := b10at b1 (k := k + 1) (n := 17) (by decide) (by omega)
    obtain ⟨t, ht, et⟩ := b10at b1 (k := k + 2) (n := 9) (by decide) (by omega)
    have ep : w_b10At a0 (k : Int) 17 = _ := ep
    have eq : w_b10At a1 ((k + 1 : Nat) : Int) 17 = _ := eq
    have et : w_b10At a1 ((k + 2 : Nat) : Int) 9 = _ := et
    have d1 := quarter_dy (n := (p : Int) - 8) (by omega)
    have d2 := quarter_dy (n := (q : Int) - 8) (by omega)
    have d3 := sixteenth_dy (n := (t : Int) - 4) (by omega)
    have lv := h.lv
    have lr := h.lr
    have ln := h.ln
    have step : ∀ z : F, (∃ c : Int, Dy .f32 4 c z ∧ (k = 0 → c = 96) ∧ (0 < k → c.natAbs ≤ 4)) → ∃ V' R' N', SpD (k + 1) V' R' N' ∧ w_FnSpectra_k2 V R N (k : Int) (fop .quo .f32 (fint .f32 ((p : Int) - 8)) (some 1082130432)) (fop .quo .f32 (fint .f32 ((q : Int) - 8)) (some 1082130432)) z = some (.next (V', R', N', ((k + 1 : Nat) : Int))) := by
      intro z ⟨c, c1, c2, c3⟩
      refine ⟨_, _, _, h.app d1 d2 (by omega) (by omega) c1 c2 c3, ?_⟩
      unfold w_FnSpectra_k2
      rw [show apok 8 R.length 1 = true from by simp [apok]; omega, need_true, show apok 4 N.length 1 = true from by simp [apok]; omega, need_true, wsucc (by omega), olet_eq]
    have body : ∃ V' R' N', SpD (k + 1) V' R' N' ∧ w_FnSpectra_s3 a0 a1 (n : Int) (V, R, N, (k : Int)) = some (.next (V', R', N', ((k + 1 : Nat) : Int))) := by
      have w2 : IntKind.i64.wrap ((k : Int) + 2) = ((k + 2 : Nat) : Int) := by rw [wi64 (by omega) (by omega)]; omega
      have red : ∀ r, w_FnSpectra_s3 a0 a1 (n : Int) (V, R, N, (k : Int)) = r ↔ bsel (decide ((k : Int) = 0)) (w_FnSpectra_k2 V R N (k : Int) (fop .quo .f32 (fint .f32 ((p : Int) - 8)) (some 1082130432)) (fop .quo .f32 (fint .f32 ((q : Int) - 8)) (some 1082130432)) (some 1086324736)) (w_FnSpectra_k2 V R N (k : Int) (fop .quo .f32 (fint .f32 ((p : Int) - 8)) (some 1082130432)) (fop .quo .f32 (fint .f32 ((q : Int) - 8)) (some 1082130432)) (fop .quo .f32 (fint .f32 ((t : Int) - 4)) (some 1098907648))) = r := by
        intro r
        show w_FnSpectra_b3 a0 a1 (n : Int) V R N (k : Int) = r ↔ _
        unfold w_FnSpectra_b3
        rw [dlt (show k < n by omega), bsel_true, ep, obind_eq, olet_eq, wi64 (by omega) (by omega), olet_eq, olet_eq, wsucc (by omega), olet_eq, eq, obind_eq, olet_eq, wi64 (by omega) (by omega), olet_eq, olet_eq, show apok 8 V.length 1 = true from by simp [apok]; omega, need_true, w2, olet_eq, et, obind_eq, olet_eq, wi64 (by omega) (by omega), olet_eq, olet_eq]
      by_cases k0 : k = 0
      · obtain ⟨V', R', N', s1, s2⟩ := step (some 1086324736) ⟨96, six_dy, fun _ => rfl, fun h => by omega⟩
        exact ⟨V', R', N', s1, (red _).2 (by rw [decide_eq_true (by omega), bsel_true]; exact s2)⟩
      · obtain ⟨V', R', N', s1, s2⟩ := step _ ⟨_, d3, fun h => absurd h k0, fun _ => by omega⟩
        exact ⟨V', R', N', s1, (red _).2 (by rw [decide_eq_false (by omega), bsel_false]; exact s2)⟩
    obtain ⟨V1, R1, N1, s1, s2⟩ := body
    obtain ⟨V', R', N', t1, t2⟩ := spd_loop b0 b1 hn m (k + 1) V1 R1 N1 (by omega) s1
    exact ⟨V', R', N', t1, by rw [loopM_next s2, t2]⟩
theorem SpD.use {n : Nat} {V R : List (F × F)} {N : List F} (h : SpD n V R N) : ∃ (r a b : Nat → Int), (0 < n → Rng R n r) ∧ Vct V n a b := by
  have h1 : ∀ i, ∃ p : Int × Int, i < n → Dy .f32 2 p.1 (V.getD i (none, none)).1 ∧ Dy .f32 2 p.2 (V.getD i (none, none)).2 ∧ p.1.natAbs ≤ 8 ∧ p.2.natAbs ≤ 8 := fun i => by
    by_cases hi : i < n
    · obtain ⟨a, b, h⟩ := h.v i hi; exact ⟨(a, b), fun _ => h⟩
    · exact ⟨(0, 0), fun h => absurd h hi⟩
  have h2 : ∀ i, ∃ a : Int, i < n → Dy .f32 4 a (R.getD i (none, none)).1 ∧ (R.getD i (none, none)).2 = some 0 ∧ (i = 0 → a = 96) ∧ (0 < i → a.natAbs ≤ 4) := fun i => by
    by_cases hi : i < n
    · obtain ⟨a, h⟩ := h.r i hi; exact ⟨a, fun _ => h⟩
    · exact ⟨0, fun h => absurd h hi⟩
  obtain ⟨f, hf⟩ := Classical.axiomOfChoice h1
  obtain ⟨g, hg⟩ := Classical.axiomOfChoice h2
  exact ⟨g, fun i => (f i).1, fun i => (f i).2, fun n0 => ⟨h.lr, fun k hk => ⟨(hg k hk).1, (hg k hk).2.1⟩, (hg 0 n0).2.2.1 rfl, fun k k0 hk => (hg k hk).2.2.2 k0⟩, h.lv, fun k hk => ⟨(hf k hk).1, (hf k hk).2.1⟩, fun k hk => (hf k hk).2.2⟩
def vsum (V : List (F × F)) : Nat → F × F
  | 0 => (some 0, some 0)
  | k + 1 => (fop .add .f32 (vsum V k).1 (V.getD k (none, none)).1, fop .add .f32 (vsum V k).2 (V.getD k (none, none)).2)
theorem vsum_ok {V : List (F × F)} {n : Nat} {a b : Nat → Int} (h : Vct V n a b) (n9 : n ≤ 9) : ∀ k, k ≤ n → ∃ A B : Int, Dy .f32 2 A (vsum V k).1 ∧ Dy .f32 2 B (vsum V k).2 ∧ A.natAbs ≤ 8 * k ∧ B.natAbs ≤ 8 * k ∧ cxv (vsum V k) = cxS (fun j => cxv (V.getD j (none, none))) k
  | 0, _ => by
    refine ⟨0, 0, Dy.zero .f32 (by decide), Dy.zero .f32 (by decide), by decide, by decide, ?_⟩
    unfold cxv cxS vsum
    simp only [rs]
    rw [zero_fv2]
  | k + 1, hk => by
    obtain ⟨A, B, d1, d2, b1, b2, hv⟩ := vsum_ok h n9 k (by omega)
    obtain ⟨y1, y2⟩ := h.d k (by omega)
    obtain ⟨c1, c2⟩ := h.b k (by omega)
    have hd : (2 : Nat) ^ dgn .f32 = 16777216 := by decide
    have s1 := d1.add y1 (by omega)
    have s2 := d2.add y2 (by omega)
    refine ⟨A + a k, B + b k, s1, s2, by omega, by omega, ?_⟩
    have w1 := congrArg Prod.fst hv
    have w2 := congrArg Prod.snd hv
    have w1 : vl (vsum V k).1 = rs (fun j => vl (V.getD j (none, none)).1) k := w1
    have w2 : vl (vsum V k).2 = rs (fun j => vl (V.getD j (none, none)).2) k := w2
    refine Prod.ext ?_ ?_
    · show vl (fop .add .f32 _ _) = rs (fun j => vl (V.getD j (none, none)).1) k + vl (V.getD k (none, none)).1
      rw [← w1, s1.fv.2, d1.fv.2, y1.fv.2, Rat.intCast_add]; grind
    · show vl (fop .add .f32 _ _) = rs (fun j => vl (V.getD j (none, none)).2) k + vl (V.getD k (none, none)).2
      rw [← w2, s2.fv.2, d2.fv.2, y2.fv.2, Rat.intCast_add]; grind
theorem isList12_fv {l : List F} (h0 : 0 < l.length) (h1 : l.length ≤ 12) (f : ∀ x ∈ l, Fv x) : i_isList l 12 = some true := by
  unfold i_isList i_length_float32
  rw [obind_eq, i_inRange_eq, decide_eq_true (by omega), decide_eq_true (by omega), Bool.and_self, obind_eq, bsel_true, i_areFinite_eq (fun x hx => (f x hx).fok) (by omega), List.all_eq_true.2 fun x hx => (f x hx).fin, obind_eq]
theorem ringMatrix_ok {l : List F} {n : Nat} (n0 : 0 < n) (n9 : n ≤ 9) (hl : l.length = n) (f : ∀ x ∈ l, Fv x) : i_RingMatrix l = some ((n : Int), (n : Int), true, tabM n n (fun i k => l.getD ((i + n - k) % n) none)) := by
  unfold i_RingMatrix i_length_float32
  rw [obind_eq, isList12_fv (by omega) (by omega) f, obind_eq, bsel_true, hl, i_made_2Fi_RingMatrix_1_mk (by omega) (by omega) l (n : Int) (K := fun i k => l.getD ((i + n - k) % n) none) (fun i k hi hk => by
    unfold i_RingMatrix_1
    have hx : (i + n - k) % n < n := Nat.mod_lt _ n0
    have ix : IntKind.i64.wrap (IntKind.i64.wrap ((i : Int) - (k : Int)) + (n : Int)) = ((i + n - k : Nat) : Int) := by
      rw [show IntKind.i64.wrap ((i : Int) - (k : Int)) = (i : Int) - (k : Int) from wi64 (by omega) (by omega), wi64 (by omega) (by omega)]; omega
    have tx : Int.tmod ((i + n - k : Nat) : Int) (n : Int) = (((i + n - k) % n : Nat) : Int) := rfl
    rw [olet_eq, olet_eq, decide_eq_false (by omega), Bool.not_false, need_true, ix, tx, olet_eq, at?_n none (by omega), obind_eq]), obind3_eq]
theorem last_loop {V T : List (F × F)} {n : Nat} (hV : V.length = n) (hT : T.length = n) (n9 : n ≤ 9) : loopM (w_FnSpectra_s8 V T) ([], [], some 0, some 0, 0) = some (.inl ((List.range n).map (fun k => (V.getD k (none, none)).1), (List.range n).map (fun k => (T.getD k (none, none)).1), (vsum V n).1, (vsum V n).2)) := by
  refine loop_go (step := w_FnSpectra_s8 V T) (fun j : Nat => ((List.range j).map (fun k => (V.getD k (none, none)).1), (List.range j).map (fun k => (T.getD k (none, none)).1), (vsum V j).1, (vsum V j).2, (j : Int))) n 0 (fun j _ hj => ?_) ?_
  · have hj : j < n := by omega
    show w_FnSpectra_b8 V T _ _ _ _ (j : Int) = _
    unfold w_FnSpectra_b8
    rw [hV, dlt hj, bsel_true, at?_n (none, none) (by omega), obind_eq, show apok 4 ((List.range j).map (fun k => (V.getD k (none, none)).1)).length 1 = true from by simp [apok]; omega, need_true, at?_n (none, none) (by omega), obind_eq, show apok 4 ((List.range j).map (fun k => (T.getD k (none, none)).1)).length 1 = true from by simp [apok]; omega, need_true, obind_eq, wsucc (by omega), olet_eq, List.range_succ, List.map_append, List.map_append]
    rfl
  · show w_FnSpectra_b8 V T _ _ _ _ ((0 + n : Nat) : Int) = _
    unfold w_FnSpectra_b8
    rw [hV, Nat.zero_add, dnlt, bsel_false]
theorem mem_mapR {α : Type} {f : Nat → α} {n : Nat} {x : α} (h : x ∈ (List.range n).map f) : ∃ k, k < n ∧ x = f k := by
  obtain ⟨k, hk, rfl⟩ := List.mem_map.1 h
  exact ⟨k, List.mem_range.1 hk, rfl⟩
theorem w_FnSpectra_true (a0 a1 : List Int) (t0 : Small a0) (t1 : Small a1) (g0 : ∀ z ∈ a0, (Lit.int .u8 z).wf = true) (g1 : ∀ z ∈ a1, (Lit.int .u8 z).wf = true) : w_FnSpectra a0 a1 = some true := by
  have b0 := byt_of g0
  have b1 := byt_of g1
  unfold w_FnSpectra
  obtain ⟨r, hr⟩ := b10long (a := a0) (b := a1)
  rw [hr, obind_eq]
  cases r with
  | true => rw [bsel_true]
  | false =>
    obtain ⟨v, hv, ev⟩ := b10at b1 (k := 0) (n := 9) (by decide) (by decide)
    have ev : w_b10At a1 0 9 = _ := ev
    rw [bsel_false, ev, obind_eq, wi64 (by omega) (by omega), olet_eq, show 1 + (v : Int) = ((1 + v : Nat) : Int) from by omega]
    have n0 : 0 < 1 + v := by omega
    have n9 : 1 + v ≤ 9 := by omega
    generalize 1 + v = n at *
    obtain ⟨V, R, N, sd, el⟩ := spd_loop b0 b1 n9 n 0 [] [] [] (by omega) ⟨rfl, rfl, rfl, fun i hi => by omega, fun i hi => by omega, fun i hi => by omega⟩
    have el : loopM (w_FnSpectra_s3 a0 a1 (n : Int)) ([], [], [], 0) = _ := el
    rw [el, obind_eq, osum_inl]
    obtain ⟨r, a, b, hR, hV⟩ := sd.use
    have hR := hR n0
    have n9' : (n : Rat) ≤ 9 := by exact_mod_cast n9
    have n0' : (0 : Rat) ≤ (n : Rat) := by exact_mod_cast Nat.zero_le n
    have vb : ∀ k, k < n → cxB (cxv (V.getD k (none, none))) 2 := fun k hk => (hV.v hk).2
    have sV : Spc V n (fun _ => 2) (fun _ => 2) 36 := ⟨hV.len, n0, n9, fun k hk => ⟨(hV.v hk).1, (vb k hk).1, (vb k hk).2, by decide +kernel, by decide +kernel⟩, fun k hk => by
      rw [rs_const]
      have : (k : Rat) ≤ 9 := by exact_mod_cast (show k ≤ 9 by omega)
      grind, by decide +kernel⟩
    obtain ⟨S, eS, lS, fS⟩ := spectrum_ok sV
    have hs : sE (n : Rat) 36 ≤ 25 / 1000000 := by unfold sE; grind
    have fS : ∀ m, m < n → CFv (S.getD m (none, none)) ∧ cxB (cxD (cxv (S.getD m (none, none))) (cxS (fun k => cxM (cxv (V.getD k (none, none))) (pcx n true (k * m))) n)) (25 / 1000000) := fun m hm => ⟨(fS m hm).1, (fS m hm).2.mono hs⟩
    obtain ⟨sS, _⟩ := spc_near n0 n9 lS vb (by decide +kernel) fS
    obtain ⟨W, eW, lW, fW⟩ := back_ok sS (by
      have := Rat.mul_le_mul_of_nonneg_left n9' n0'
      grind) vb (by decide +kernel) (fun m hm => (fS m hm).2)
    obtain ⟨T, eT, lT, fT⟩ := times_ok hR hV n0 n9
    obtain ⟨Z, eZ, lZ, fZ⟩ := solve_ok hR hV n0 n9 lT fT
    have fN : ∀ x ∈ N, Fv x := fun x hx => by
      obtain ⟨i, hi, rfl⟩ := mem_getD hx
      rw [sd.ln] at hi
      rw [sd.n i hi]; exact (hR.v hi).1.1
    unfold w_FnSpectra_k3
    rw [eS, obind2_eq, eW, obind2_eq, eT, obind2_eq, eZ, obind2_eq, ringMatrix_ok n0 n9 sd.ln fN, obind4_eq, bsel_true, bsel_true, bsel_true, bsel_true, bsel_true, lS, decide_eq_true rfl, Bool.not_true, bsel_false,
      farRing_no lW hV.len (by omega) (fun i hi => ⟨(fW i hi).1, (hV.v hi).1, (fW i hi).2.mono (by decide +kernel)⟩), obind_eq, bsel_false,
      farRing_no lZ hV.len (by omega) (fun i hi => ⟨(fZ i hi).1, (hV.v hi).1, (fZ i hi).2⟩), obind_eq, bsel_false, lT, decide_eq_true rfl, Bool.not_true, bsel_false]
    unfold w_FnSpectra_k7
    rw [last_loop hV.len lT n9, obind_eq, osum_inl]
    unfold w_FnSpectra_k8
    have hmat : Mat n n (tabM n n (fun i k => N.getD ((i + n - k) % n) none)) := tabM_mat (by omega) (by omega)
    have nv : ∀ i, i < n → Fv (N.getD i none) ∧ Ab (vl (N.getD i none)) 6 := fun i hi => by
      rw [sd.n i hi]
      refine ⟨(hR.v hi).1.1, (hR.v hi).2.1.mono ?_⟩
      split <;> decide +kernel
    have dn : ∀ i, i < n → Fv (dotN (fun k => gm none (tabM n n (fun i k => N.getD ((i + n - k) % n) none)) n i k) (fun k => ((List.range n).map (fun k => (V.getD k (none, none)).1)).getD k none) n) ∧ Ab (vl (dotN (fun k => gm none (tabM n n (fun i k => N.getD ((i + n - k) % n) none)) n i k) (fun k => ((List.range n).map (fun k => (V.getD k (none, none)).1)).getD k none) n) - vl (T.getD i (none, none)).1) (998 / 1000000) := by
      intro i hi
      have pr : ∀ j, j < n → Fv (gm none (tabM n n (fun i k => N.getD ((i + n - k) % n) none)) n i j) ∧ Fv (((List.range n).map (fun k => (V.getD k (none, none)).1)).getD j none) ∧ Ab (vl (gm none (tabM n n (fun i k => N.getD ((i + n - k) % n) none)) n i j) * vl (((List.range n).map (fun k => (V.getD k (none, none)).1)).getD j none)) 12 := by
        intro j hj
        have hx : (i + n - j) % n < n := Nat.mod_lt _ n0
        rw [tabM_gm (by omega) (by omega) hi hj, getD_mapR _ hj]
        exact ⟨(nv _ hx).1, (hV.v hj).1.1, ((nv _ hx).2.mul (vb j hj).1).mono (by decide +kernel)⟩
      obtain ⟨d1, d2⟩ := dotN_near (P := 12) (S := 108) (e := 2 / 100000) (show n ≤ 16 by omega) pr (fun j hj => (rs_ab fun t ht => (pr t (by omega)).2.2).mono (by
        have : (j : Rat) ≤ 9 := by exact_mod_cast (show j ≤ 9 by omega)
        grind)) (by decide +kernel) (by decide +kernel) (by decide +kernel) (by decide +kernel) (by decide +kernel)
      refine ⟨d1, ?_⟩
      have e1 : vl (T.getD i (none, none)).1 = rs (fun t => vl (gm none (tabM n n (fun i k => N.getD ((i + n - k) % n) none)) n i t) * vl (((List.range n).map (fun k => (V.getD k (none, none)).1)).getD t none)) n := by
        have := congrArg Prod.fst (fT i hi).2
        have this : vl (T.getD i (none, none)).1 = rs (fun j => (cxM (cxv (R.getD ((i + n - j) % n) (none, none))) (cxv (V.getD j (none, none)))).1) n := this
        rw [this]
        refine rs_congr fun j hj => ?_
        have hx : (i + n - j) % n < n := Nat.mod_lt _ n0
        rw [tabM_gm (by omega) (by omega) hi hj, getD_mapR _ hj, sd.n _ hx]
        show vl _ * vl _ - vl _ * vl _ = _
        rw [(hR.v hx).2.2]; grind
      rw [e1]
      exact d2.mono (by grind)
    rw [s_TimesVector_fv hmat n0 n0 (fun y hy => by
      obtain ⟨i, k, hi, hk, rfl⟩ := mem_gm hmat hy
      rw [tabM_gm (by omega) (by omega) hi hk]
      exact (nv _ (Nat.mod_lt _ n0)).1) (by simp) (fun x hx => by
      obtain ⟨k, hk, rfl⟩ := mem_mapR hx
      exact (hV.v hk).1.1) (fun i hi => (dn i hi).1), obind2_eq, bsel_true,
      far_no (by simp) (by simp; omega) (fun i hi => by
        have hi : i < n := by simpa using hi
        rw [getD_mapR _ hi, getD_mapR _ hi]
        exact ⟨(dn i hi).1, (fT i hi).1.1, (dn i hi).2⟩), obind_eq, bsel_false]
    obtain ⟨A, B, d1, d2, _, _, hsum⟩ := vsum_ok hV n9 n (Nat.le_refl _)
    have f0 := fS 0 n0
    have hp : ∀ k, pcx n true (k * 0) = (1, 0) := fun k => by
      unfold pcx
      rw [Nat.mul_zero, ph_zero n (by omega) n0]
      refine Prod.ext ?_ ?_ <;> decide +kernel
    have e0 : cxS (fun k => cxM (cxv (V.getD k (none, none))) (pcx n true (k * 0))) n = cxv (vsum V n) := by
      rw [hsum]
      refine cxS_congr fun k _ => ?_
      rw [hp]
      unfold cxM
      refine Prod.ext ?_ ?_ <;> simp only [] <;> grind
    rw [e0] at f0
    have f1 := cxDs f0.2
    obtain ⟨s1, s2⟩ := fv_subh d1.fv.1 f0.1.1 f1.1 (by decide +kernel)
    obtain ⟨u1, u2⟩ := fv_subh d2.fv.1 f0.1.2 f1.2 (by decide +kernel)
    have l : h32 (25 / 1000000) ≤ 1 / 100000000 := by decide +kernel
    have hz : cxB (cxv (fop .sub .f32 (vsum V n).1 (S.getD 0 (none, none)).1, fop .sub .f32 (vsum V n).2 (S.getD 0 (none, none)).2)) (1 / 2000) := by
      constructor
      · have := f1.1
        exact ⟨by have := this.1; have := s2.1; unfold cxD cxv at *; simp only [] at *; grind, by have := this.2; have := s2.2; unfold cxD cxv at *; simp only [] at *; grind⟩
      · have := f1.2
        exact ⟨by have := this.1; have := u2.1; unfold cxD cxv at *; simp only [] at *; grind, by have := this.2; have := u2.2; unfold cxD cxv at *; simp only [] at *; grind⟩
    obtain ⟨x, c, e1, e2, e3⟩ := long_small ⟨s1, u1⟩ hz
    have e1 : s_LongOf (fop .sub .f32 (vsum V n).1 (S.getD 0 (none, none)).1) (fop .sub .f32 (vsum V n).2 (S.getD 0 (none, none)).2) = some x := e1
    obtain ⟨q, q1, q2⟩ := c001
    have at0 : at? S 0 = some (S.getD 0 (none, none)) := at?_n (i := 0) (none, none) (by rw [lS]; exact n0)
    rw [at0, obind_eq, e1, obind_eq, olet_eq, (e2.ord q1).1, decide_eq_true (by have := e3.2; grind)]
    rfl
def dst (i j : Nat) : Nat := if j ≤ i then i - j else j - i
noncomputable def tv (l : List F) (k : Nat) : Rat := vl (l.getD k none)
def aT (k : Nat) : Rat := [0, 12502 / 100000, 14289 / 100000, 16671 / 100000, 20006 / 100000, 25009 / 100000, 33348 / 100000, 5003 / 10000].getD k 0
def rhoT (k : Nat) : Rat := [0, 51 / 10000000, 68 / 10000000, 90 / 10000000, 120 / 10000000, 163 / 10000000, 231 / 10000000, 361 / 10000000].getD k 0
structure Shf (l : List F) (n : Nat) : Prop where
  len : l.length = n
  n0 : 0 < n
  n8 : n ≤ 8
  fv : ∀ k, k < n → Fv (l.getD k none)
  h0 : l.getD 0 none = some 1090519040
  b : ∀ k, 0 < k → k < n → Ab (tv l k) 1
structure Lev (l : List F) (k : Nat) (A : List F) (e : F) : Prop where
  len : A.length = k
  fv : ∀ i, i < k → Fv (A.getD i none) ∧ Ab (vl (A.getD i none)) (aT k)
  res : ∀ i, i < k → Ab (rs (fun j => tv l (dst i j) * vl (A.getD j none)) k - tv l (i + 1)) (rhoT k)
  fe : Fv e
  ed : Ab (vl e - (8 - rs (fun j => vl (A.getD j none) * tv l (j + 1)) k)) ((k : Rat) * 6 / 1000000)
  e8 : vl e ≤ 8
theorem Lev.lo {l A : List F} {n k : Nat} {e : F} (hs : Shf l n) (h : Lev l k A e) (hk : k < n) : 8 - (k : Rat) * aT k - 5 / 100000 ≤ vl e := by
  have hb : Ab (rs (fun j => vl (A.getD j none) * tv l (j + 1)) k) ((k : Rat) * aT k) := rs_ab fun j hj => ((h.fv j hj).2.mul (hs.b (j + 1) (by omega) (by omega))).mono (by grind)
  have kr : (k : Rat) ≤ 7 := by exact_mod_cast (show k ≤ 7 by have := hs.n8; omega)
  have := h.ed.1
  have := hb.2
  grind
def xT (k : Nat) : Rat := [0, 50001 / 100000, 57146 / 100000, 66673 / 100000, 80012 / 100000, 100021 / 100000, 133374 / 100000, 200095 / 100000, 400386 / 100000].getD k 0
def tauT (k : Nat) : Rat := [0, 51 / 10000000, 36 / 1000000, 51 / 1000000, 70 / 1000000, 95 / 1000000, 130 / 1000000, 191 / 1000000, 351 / 1000000].getD k 0
structure ShX (l b : List F) (k : Nat) (X : List F) : Prop where
  len : X.length = k
  fv : ∀ i, i < k → Fv (X.getD i none) ∧ Ab (vl (X.getD i none)) (xT k)
  res : ∀ i, i < k → Ab (rs (fun j => tv l (dst i j) * vl (X.getD j none)) k - tv b i) (tauT k)
theorem Shf.all {l : List F} {n : Nat} (h : Shf l n) : ∀ x ∈ l, Fv x := fun x hx => by
  obtain ⟨i, hi, rfl⟩ := mem_getD hx
  exact h.fv i (by rw [← h.len]; exact hi)
theorem ShX.all {l b X : List F} {n : Nat} (h : ShX l b n X) : ∀ x ∈ X, Fv x := fun x hx => by
  obtain ⟨i, hi, rfl⟩ := mem_getD hx
  exact (h.fv i (by rw [← h.len]; exact hi)).1
structure ThD (n k : Nat) (Lo Mi Up : List F) : Prop where
  l1 : Lo.length = k
  l2 : Mi.length = k
  l3 : Up.length = k
  lo : ∀ i, i < k → ∃ a : Int, Dy .f32 2 a (Lo.getD i none) ∧ a.natAbs ≤ 4 ∧ (i = 0 → a = 0)
  mi : ∀ i, i < k → ∃ q : Int, Dy .f32 2 q (Mi.getD i none) ∧ 20 ≤ q ∧ q ≤ 28
  up : ∀ i, i < k → ∃ a : Int, Dy .f32 2 a (Up.getD i none) ∧ a.natAbs ≤ 4 ∧ (i = n - 1 → a = 0)
theorem ThD.app {n k : Nat} {Lo Mi Up : List F} (h : ThD n k Lo Mi Up) {x y z : F} (hx : ∃ a : Int, Dy .f32 2 a x ∧ a.natAbs ≤ 4 ∧ (k = 0 → a = 0)) (hy : ∃ q : Int, Dy .f32 2 q y ∧ 20 ≤ q ∧ q ≤ 28) (hz : ∃ a : Int, Dy .f32 2 a z ∧ a.natAbs ≤ 4 ∧ (k = n - 1 → a = 0)) : ThD n (k + 1) (Lo ++ [x]) (Mi ++ [y]) (Up ++ [z]) := by
  refine ⟨by simp [h.l1], by simp [h.l2], by simp [h.l3], fun i hi => ?_, fun i hi => ?_, fun i hi => ?_⟩
  · rw [getD_snocC h.l1 hi]
    by_cases e : i = k
    · rw [if_pos e]; subst e; exact hx
    · rw [if_neg e]; exact h.lo i (by omega)
  · rw [getD_snocC h.l2 hi]
    by_cases e : i = k
    · rw [if_pos e]; exact hy
    · rw [if_neg e]; exact h.mi i (by omega)
  · rw [getD_snocC h.l3 hi]
    by_cases e : i = k
    · rw [if_pos e]; subst e; exact hz
    · rw [if_neg e]; exact h.up i (by omega)


end Go.Proofs.Ytkdociaoknmgbaa
