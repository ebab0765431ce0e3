/- The plain law of FnMatrices. -/
import Derived.Test.YtcjbfpoaidjpaaaG3
namespace Go.Proofs.Ytcjbfpoaidjpaaa
set_option linter.unusedSimpArgs false
set_option linter.unusedVariables false
open Go Go.AM
def Small {α : Type} (l : List α) : Prop := l.length ≤ 9223372036854775807
theorem x_math_Signbit_widen {b : Nat} (h : FOk .f32 (some b)) : x_math_Signbit (fwiden (some b)) = some (wneg Ieee.single b) := by
  unfold x_math_Signbit
  have hok := (fwiden_ok h)
  simp only [fwiden, Option.map_some] at hok ⊢
  have hlt : FloatKind.f64.encode (FloatKind.f32.decode b) < 18446744073709551616 := hok.some.1
  have hn := widen_neg h
  generalize FloatKind.f64.encode (FloatKind.f32.decode b) = w at hlt hn
  rw [← hn]
  simp only [obind_eq, olet_eq]
  congr 1
  have e : wneg Ieee.double w = decide (9223372036854775808 ≤ w) := by
    unfold wneg
    show (w / 9223372036854775808 % 2 == 1) = _
    by_cases h1 : 9223372036854775808 ≤ w
    · have : w / 9223372036854775808 = 1 := by omega
      simp [this, h1]
    · have : w / 9223372036854775808 = 0 := by omega
      simp [this, h1]
  rw [e]
  have : IntKind.i64.wrap (w : Int) = if w < 9223372036854775808 then (w : Int) else (w : Int) - 18446744073709551616 := by
    simp only [IntKind.wrap, IntKind.bits, IntKind.signed]
    simp
    split <;> split <;> omega
  rw [this]
  by_cases h1 : w < 9223372036854775808
  · rw [if_pos h1]; simp; omega
  · rw [if_neg h1]; simp; omega
theorem i_SameNumber_eq {c d : F} (hc : FOk .f32 c) (hd : FOk .f32 d) : i_SameNumber c d = some (decide (c = d)) := by
  unfold i_SameNumber
  cases c with
  | none =>
    cases d with
    | none => simp
    | some b => simp [feq_refl hd]
  | some a =>
    cases d with
    | none => simp [feq_refl hc]
    | some b =>
      rw [feq_refl hc, feq_refl hd]
      simp only [Bool.not_true, bsel_false, olet_eq, x_math_Signbit_widen hc, x_math_Signbit_widen hd, obind_eq]
      cases ho : feq .f32 (some a) (some b) with
      | false =>
        rw [bsel_false]
        have : a ≠ b := fun e => by subst e; rw [feq_refl hc] at ho; cases ho
        simp [this]
      | true =>
        rw [bsel_true]
        have ho' : Ieee.single.order a b = some .eq := by
          simp only [feq, ford, Option.bind_some] at ho
          have : FloatKind.f32.format.order a b = some .eq := by simpa using ho
          exact this
        congr 1
        by_cases hs : wneg Ieee.single a = wneg Ieee.single b
        · have := eq_of_order (f := Ieee.single) (fmt_ok .f32) hc.some.1 hd.some.1 hc.some.2 hd.some.2 ho' hs
          subst this; simp
        · have : a ≠ b := fun e => hs (by rw [e])
          simp [this, hs]
def FOks (l : List F) : Prop := ∀ c ∈ l, FOk .f32 c
theorem FOks.at {l : List F} (h : FOks l) {i : Nat} {c : F} (e : l[i]? = some c) : FOk .f32 c := h c (List.mem_of_getElem? e)
theorem x_slices_EqualFunc_float32_float32_float32_float32_2Fi_SameNumber_eq {a b : List F} (ha : FOks a) (hb : FOks b) (sa : a.length ≤ 1048576) : x_slices_EqualFunc_float32_float32_float32_float32_2Fi_SameNumber a b = some (decide (a = b)) := by
  unfold x_slices_EqualFunc_float32_float32_float32_float32_2Fi_SameNumber
  by_cases hl : a.length = b.length
  · rw [loop_eq (l := a) (m := b) hl ?_ ?_]
    · by_cases e : a = b
      · simp [e, x_slices_EqualFunc_float32_float32_float32_float32_2Fi_SameNumber_k1]
      · simp [hl, e]
    · intro v x y h0 hv hx hy
      show x_slices_EqualFunc_float32_float32_float32_float32_2Fi_SameNumber_b1 a b v = _
      unfold x_slices_EqualFunc_float32_float32_float32_float32_2Fi_SameNumber_b1
      rw [at?_of h0 hx, at?_of h0 hy, wrap_succ h0 hv (by omega)]
      simp [bsel_if, hv, i_SameNumber_eq (ha.at hx) (hb.at hy)]
    · show x_slices_EqualFunc_float32_float32_float32_float32_2Fi_SameNumber_b1 a b (a.length : Int) = _
      unfold x_slices_EqualFunc_float32_float32_float32_float32_2Fi_SameNumber_b1
      simp [bsel_if]
  · have : a ≠ b := fun e => hl (by rw [e])
    have hl' : ¬ (a.length : Int) = (b.length : Int) := by omega
    simp [hl', this]
theorem i_inRange_eq (n lo hi : Int) : i_inRange n lo hi = some (decide (lo ≤ n) && decide (n ≤ hi)) := by
  unfold i_inRange; cases decide (lo ≤ n) <;> rfl
theorem i_IsFinite_eq {c : F} (h : FOk .f32 c) : i_IsFinite c = some (fin32 c) := by
  unfold i_IsFinite i_isFinite64 x_math_IsNaN x_math_IsInf x_math_Abs x_math_IsInf_k1
  cases c with
  | none => simp [fwiden, fin32]
  | some b =>
    have hw := feq_refl (k := .f64) (b := FloatKind.f64.encode (FloatKind.f32.decode b)) (fwiden_ok h)
    have hw' : feq .f64 (fwiden (some b)) (fwiden (some b)) = true := hw
    have hm := fabs_max h (by simp)
    simp only [olet_eq, obind_eq, hw', Bool.not_true, bsel_false, decide_true, bsel_true, hm, Bool.not_not]
theorem i_areFinite_1_eq {c : F} (h : FOk .f32 c) : i_areFinite_1 c = some (!fin32 c) := by
  unfold i_areFinite_1; rw [i_IsFinite_eq h]; rfl
theorem any_not {α : Type} (l : List α) (p : α → Bool) : l.any (fun x => !p x) = !l.all p := by
  induction l with
  | nil => rfl
  | cons a l ih => simp [ih]
theorem i_areFinite_eq {a : List F} (ha : FOks a) (sa : a.length ≤ 1048576) : i_areFinite a = some (a.all fin32) := by
  unfold i_areFinite x_slices_ContainsFunc_float32_float32_1Fi_areFinite_1 x_slices_IndexFunc_float32_float32_1Fi_areFinite_1
  obtain ⟨r, h1, h2⟩ := loop_find (l := a) (p := fun c => !fin32 c) (step := x_slices_IndexFunc_float32_float32_1Fi_areFinite_1_s1 a) (by
    intro v x h0 hv hx
    show x_slices_IndexFunc_float32_float32_1Fi_areFinite_1_b1 a v = _
    unfold x_slices_IndexFunc_float32_float32_1Fi_areFinite_1_b1
    rw [at?_of h0 hx, wrap_succ h0 hv (by omega)]
    simp [bsel_if, hv, i_areFinite_1_eq (ha.at hx)]) (by
    show x_slices_IndexFunc_float32_float32_1Fi_areFinite_1_b1 a (a.length : Int) = _
    unfold x_slices_IndexFunc_float32_float32_1Fi_areFinite_1_b1
    simp [bsel_if])
  rw [h1, any_not]
  cases h : a.all fin32 <;> simp [x_slices_IndexFunc_float32_float32_1Fi_areFinite_1_k1, h2]
abbrev q1 : List F := [some 1073741824, some 1065353216, some 1065353216, some 1073741824]
def putG (a part : List F) (R C K c : Nat) : Nat → List F
  | 0 => a
  | v + 1 => (putG a part R C K c v).set ((R + v / c) * C + K + v % c) (part.getD v none)
theorem putG_len (a part : List F) (R C K c v : Nat) : (putG a part R C K c v).length = a.length := by
  induction v with
  | zero => rfl
  | succ v ih => simp [putG, ih]
theorem put_in {A C R K r c i k : Nat} (hR : R + r ≤ A) (hK : K + c ≤ C) (hi : i < r) (hk : k < c) : (R + i) * C + K + k < A * C := by
  have h1 : (R + i + 1) * C ≤ A * C := Nat.mul_le_mul_right C (by omega)
  rw [Nat.add_mul, Nat.one_mul] at h1
  omega
theorem small_mul {x y : Nat} (hx : x ≤ 12) (hy : y ≤ 12) : x * y ≤ 144 := Nat.mul_le_mul hx hy
structure PutOk (A C r c R K : Nat) (a part : List F) : Prop where
  hA : A ≤ 12
  hC : C ≤ 12
  hr : r ≤ 12
  hc : c ≤ 12
  c0 : 0 < c
  ha : a.length = A * C
  hp : part.length = r * c
  hR : R + r ≤ A
  hK : K + c ≤ C
theorem put_idx {A C R K r c i k : Nat} (hA : A ≤ 12) (hC : C ≤ 12) (hR : R + r ≤ A) (hK : K + c ≤ C) (hi : i < r) (hk : k < c) : (R + i) * C ≤ 144 ∧ (R + i) * C + K + k < A * C ∧ A * C ≤ 144 :=
  ⟨Nat.mul_le_mul (show R + i ≤ 12 by omega) hC, put_in hR hK hi hk, small_mul hA hC⟩
theorem div_at {i k c : Nat} (hk : k < c) : (i * c + k) / c = i ∧ (i * c + k) % c = k := by
  have hc : 0 < c := by omega
  constructor
  · rw [Nat.mul_comm, Nat.mul_add_div hc, Nat.div_eq_of_lt hk, Nat.add_zero]
  · rw [Nat.mul_comm, Nat.mul_add_mod, Nat.mod_eq_of_lt hk]
theorem i_PutMatrix_inner {A C r c R K : Nat} {a part : List F} (h : PutOk A C r c R K a part) {i : Nat} (hi : i < r) (a0 : Int) (r6 : List F) (h6 : r6.length = a.length) :
    loopM (i_PutMatrix_s2 (r : Int) (c : Int) part (R : Int) (K : Int) a0 (C : Int) r6 (i : Int)) (putG a part R C K c (i * c), 0) = some (.inl (putG a part R C K c ((i + 1) * c))) := by
  have hic : (i + 1) * c ≤ r * c := Nat.mul_le_mul_right c (by omega)
  rw [Nat.add_mul, Nat.one_mul] at hic ⊢
  have hrc := small_mul h.hr h.hc
  have key : ∀ (m k : Nat), m + k = c → loopM (i_PutMatrix_s2 (r : Int) (c : Int) part (R : Int) (K : Int) a0 (C : Int) r6 (i : Int)) (putG a part R C K c (i * c + k), (k : Int)) = some (.inl (putG a part R C K c (i * c + c))) := by
    intro m
    induction m with
    | zero =>
      intro k hk
      have : k = c := by omega
      subst this
      refine loopM_out ?_
      show i_PutMatrix_b2 _ _ _ _ _ _ _ _ _ _ _ = _
      unfold i_PutMatrix_b2
      simp
    | succ m ih =>
      intro k hk
      have hkc : k < c := by omega
      obtain ⟨b1, b2, b3⟩ := put_idx h.hA h.hC h.hR h.hK hi hkc
      obtain ⟨d1, d2⟩ := div_at (i := i) hkc
      have hin : i * c + k < part.length := by rw [h.hp]; omega
      rw [loopM_next (s' := (putG a part R C K c (i * c + (k + 1)), ((k + 1 : Nat) : Int))) ?_]
      · exact ih (k + 1) (by omega)
      · show i_PutMatrix_b2 _ _ _ _ _ _ _ _ _ _ _ = _
        unfold i_PutMatrix_b2 i_Matrix_at i_Matrix_set_02o
        have hput : putG a part R C K c (i * c + (k + 1)) = (putG a part R C K c (i * c + k)).set ((R + i) * C + K + k) (part.getD (i * c + k) none) := by
          rw [← Nat.add_assoc]
          simp only [putG, d1, d2]
        have hlen := putG_len a part R C K c (i * c + k)
        have hlen' := putG_len a part R C K c (i * c + (k + 1))
        rw [hput] at hlen' ⊢
        generalize putG a part R C K c (i * c + k) = L at hlen hlen'
        have hA12 := h.hA
        have hR12 := h.hR
        have hK12 := h.hK
        have hC12 := h.hC
        have hr12 := h.hr
        have ha := h.ha
        have e1 : IntKind.i64.wrap ((R : Int) + (i : Int)) = ((R + i : Nat) : Int) := by rw [wrap_i64 (by omega) (by omega)]; omega
        have e2 : IntKind.i64.wrap ((K : Int) + (k : Int)) = ((K + k : Nat) : Int) := by rw [wrap_i64 (by omega) (by omega)]; omega
        have e3 : IntKind.i64.wrap ((i : Int) * (c : Int)) = ((i * c : Nat) : Int) := by rw [← Int.natCast_mul, wrap_i64 (by omega) (by omega)]
        have e6 : IntKind.i64.wrap (((R + i : Nat) : Int) * (C : Int)) = (((R + i) * C : Nat) : Int) := by rw [← Int.natCast_mul, wrap_i64 (by omega) (by omega)]
        generalize (R + i) * C = t at b1 b2 e6 hlen'
        generalize i * c = u at e3 hin hic
        have e4 : IntKind.i64.wrap ((u : Int) + (k : Int)) = ((u + k : Nat) : Int) := by rw [wrap_i64 (by omega) (by omega)]; omega
        have e5 : at? part ((u + k : Nat) : Int) = some (part.getD (u + k) none) := at?_of (by omega) (by
          have e : ((u + k : Nat) : Int).toNat = u + k := by omega
          rw [e]; simp [List.getD, hin])
        have e7 : IntKind.i64.wrap ((t : Int) + ((K + k : Nat) : Int)) = ((t + K + k : Nat) : Int) := by rw [wrap_i64 (by omega) (by omega)]; omega
        have e8 : setAt? L ((t + K + k : Nat) : Int) (part.getD (u + k) none) = some (L.set (t + K + k) (part.getD (u + k) none)) := by
          rw [setAt?_of (by omega) (by omega)]
          rfl
        have e9 : IntKind.i64.wrap ((k : Int) + 1) = ((k + 1 : Nat) : Int) := by rw [wrap_i64 (by omega) (by omega)]; omega
        have e10 : decide ((L.set (t + K + k) (part.getD (u + k) none)).length = r6.length) = true := by simp; omega
        simp only [olet_eq, e1, e2, e3, e4, e5, obind_eq, e6, e7, e8, e9, e10, need_true, bsel_if, decide_eq_true_eq]
        rw [if_pos (by omega)]
  have := key c 0 (by omega)
  simpa using this
theorem i_PutMatrix_loop {A C r c R K : Nat} {a part : List F} (h : PutOk A C r c R K a part) (a0 : Int) (r6 : List F) (h6 : r6.length = a.length) :
    loopM (i_PutMatrix_s3 (r : Int) (c : Int) part (R : Int) (K : Int) a0 (C : Int) r6) (a, 0) = some (.inl (putG a part R C K c (r * c))) := by
  have hrc := small_mul h.hr h.hc
  have key : ∀ (m i : Nat), m + i = r → loopM (i_PutMatrix_s3 (r : Int) (c : Int) part (R : Int) (K : Int) a0 (C : Int) r6) (putG a part R C K c (i * c), (i : Int)) = some (.inl (putG a part R C K c (r * c))) := by
    intro m
    induction m with
    | zero =>
      intro i hi
      have : i = r := by omega
      subst this
      refine loopM_out ?_
      show i_PutMatrix_b3 _ _ _ _ _ _ _ _ _ _ = _
      unfold i_PutMatrix_b3
      simp
    | succ m ih =>
      intro i hi
      have hir : i < r := by omega
      rw [loopM_next (s' := (putG a part R C K c ((i + 1) * c), ((i + 1 : Nat) : Int))) ?_]
      · exact ih (i + 1) (by omega)
      · show i_PutMatrix_b3 _ _ _ _ _ _ _ _ _ _ = _
        unfold i_PutMatrix_b3
        rw [i_PutMatrix_inner h hir a0 r6 h6]
        have hr12 := h.hr
        have e9 : IntKind.i64.wrap ((i : Int) + 1) = ((i + 1 : Nat) : Int) := by rw [wrap_i64 (by omega) (by omega)]; omega
        simp only [obind_eq, osum_inl, i_PutMatrix_k2, olet_eq, e9, bsel_if, decide_eq_true_eq]
        rw [if_pos (by omega)]
  have := key r 0 (by omega)
  simpa [putG] using this
def side (n : Int) : Bool := decide (1 ≤ n) && decide (n ≤ 12)
theorem i_isSide_eq (x : Int) : i_isSide x = some (side x) := by
  unfold i_isSide; rw [i_inRange_eq]; rfl
def validM (a0 a1 : Int) (a2 : List F) : Bool := side a0 && side a1 && decide ((a2.length : Int) = IntKind.i64.wrap (a0 * a1)) && a2.all fin32
theorem i_ValidMatrix_eq (a0 a1 : Int) {a2 : List F} (g2 : FOks a2) (s2 : a2.length ≤ 1048576) : i_ValidMatrix a0 a1 a2 = some (validM a0 a1 a2) := by
  unfold i_ValidMatrix i_length_float32 validM
  rw [i_isSide_eq, i_isSide_eq, i_areFinite_eq g2 s2]
  cases side a0 <;> cases side a1 <;> simp [bsel_if] <;> split <;> simp_all
def liesM (a0 a1 row col r c : Int) : Bool := side r && side c && (decide (0 ≤ row) && decide (row ≤ IntKind.i64.wrap (a0 - r))) && (decide (0 ≤ col) && decide (col ≤ IntKind.i64.wrap (a1 - c)))
theorem i_Matrix_liesIn_eq (a0 a1 : Int) (a2 : List F) (row col r c : Int) : i_Matrix_liesIn a0 a1 a2 row col r c = some (liesM a0 a1 row col r c) := by
  unfold i_Matrix_liesIn liesM
  rw [i_isSide_eq, i_isSide_eq]
  simp only [i_inRange_eq, obind_eq, olet_eq]
  generalize (decide (0 ≤ row) && decide (row ≤ IntKind.i64.wrap (a0 - r))) = p
  generalize (decide (0 ≤ col) && decide (col ≤ IntKind.i64.wrap (a1 - c))) = q
  cases side r <;> cases side c <;> cases p <;> cases q <;> rfl
theorem FOks.getD {l : List F} (h : FOks l) (n : Nat) : FOk .f32 (l.getD n none) := by
  simp only [List.getD]
  cases e : l[n]? with
  | none => exact fok_none _
  | some c => exact h.at e
theorem FOks.set {l : List F} (h : FOks l) {n : Nat} {x : F} (hx : FOk .f32 x) : FOks (l.set n x) := by
  intro c hc
  rcases List.mem_or_eq_of_mem_set hc with h1 | h1
  · exact h c h1
  · exact h1 ▸ hx
theorem wsucc {i : Nat} (h : i ≤ 1000000000) : IntKind.i64.wrap ((i : Int) + 1) = ((i + 1 : Nat) : Int) := by
  rw [wrap_i64 (by omega) (by omega)]; omega
theorem dlt {i n : Nat} (h : i < n) : decide ((i : Int) < (n : Int)) = true := by simp; omega
theorem dnlt {n : Nat} : decide ((n : Int) < (n : Int)) = false := by simp
theorem i_Matrix_at_eq {A C i k : Nat} {L : List F} (r : Int) (h : Mat A C L) (hi : i < A) (hk : k < C) : i_Matrix_at r (C : Int) L (i : Int) (k : Int) = some (gm none L C i k) := by
  obtain ⟨e1, e2⟩ := idx_w h.A1 h.C1 hi hk
  unfold i_Matrix_at
  rw [e1, olet_eq, e2, olet_eq, at?_n none (h.lt hi hk), obind_eq]
theorem i_Matrix_set_02o_eq {A C i k : Nat} {L : List F} (r : Int) (h : Mat A C L) (hi : i < A) (hk : k < C) (x : F) : i_Matrix_set_02o r (C : Int) (i : Int) (k : Int) x L = some (sm L C i k x) := by
  obtain ⟨e1, e2⟩ := idx_w h.A1 h.C1 hi hk
  unfold i_Matrix_set_02o
  rw [e1, olet_eq, e2, olet_eq, setAt?_n x (h.lt hi hk), obind_eq]
theorem i_mul_eq (a b : F) : i_mul a b = some (fop .mul .f32 a b) := rfl
theorem getD_of_lt {α : Type} {l : List α} {n : Nat} (d : α) (h : n < l.length) : l[n]? = some (l.getD n d) := by simp [List.getD, h]
theorem mat_valid {A C : Nat} {L : List F} (h : Mat A C L) (hA : 0 < A) (hC : 0 < C) : validM (A : Int) (C : Int) L = L.all fin32 := by
  unfold validM side
  have hAC := small_mul h.A1 h.C1
  have h1 := h.A1
  have h2 := h.C1
  rw [← Int.natCast_mul, wn (by omega), h.len]
  have e1 : decide ((1 : Int) ≤ (A : Int)) = true := by simp; omega
  have e2 : decide ((A : Int) ≤ 12) = true := by simp; omega
  have e3 : decide ((1 : Int) ≤ (C : Int)) = true := by simp; omega
  have e4 : decide ((C : Int) ≤ 12) = true := by simp; omega
  rw [e1, e2, e3, e4]
  simp
theorem i_Matrix_clone_eq (a0 a1 : Int) {L : List F} (h : L.length ≤ 1048576) : i_Matrix_clone a0 a1 L = some (a0, a1, L) := by
  have ap : apok 4 0 L.length = true := by simp [apok]; omega
  unfold i_Matrix_clone x_slices_Clone_float32_float32; rw [ap]; rfl
theorem i_newMatrix_eq {A C : Nat} (hA : A ≤ 12) (hC : C ≤ 12) : i_newMatrix (A : Int) (C : Int) = some ((A : Int), (C : Int), List.replicate (A * C) (some 0)) := by
  have hAC := small_mul hA hC
  unfold i_newMatrix
  have mk : mkok 4 ((A * C : Nat) : Int) = true := by simp [mkok]; omega
  rw [← Int.natCast_mul, wn (by omega), olet_eq, mk]; rfl
theorem mat_ext {A C : Nat} {L L' : List F} (h : Mat A C L) (h' : Mat A C L') (e : ∀ i k, i < A → k < C → gm none L C i k = gm none L' C i k) : L = L' := by
  apply List.ext_getElem?
  intro q
  by_cases hq : q < A * C
  · have hC : 0 < C := by
      rcases Nat.eq_zero_or_pos C with h0 | h0
      · subst h0; simp at hq
      · exact h0
    have h1 : q / C < A := (Nat.div_lt_iff_lt_mul hC).2 hq
    have h2 : q % C < C := Nat.mod_lt _ hC
    have h3 : q / C * C + q % C = q := by rw [Nat.mul_comm]; exact Nat.div_add_mod q C
    have := e _ _ h1 h2
    unfold gm at this
    rw [h3] at this
    rw [getD_of_lt none (by rw [h.len]; exact hq), getD_of_lt none (by rw [h'.len]; exact hq), this]
  · rw [List.getElem?_eq_none (by rw [h.len]; omega), List.getElem?_eq_none (by rw [h'.len]; omega)]
def fillR (f : Nat → Nat → F) (C i : Nat) (L : List F) : List F := run (fun k L => sm L C i k (f i k)) 0 C L
def fillA (f : Nat → Nat → F) (A C : Nat) (L : List F) : List F := run (fillR f C) 0 A L
theorem fillR_spec {f : Nat → Nat → F} {A C i : Nat} {L : List F} (h : Mat A C L) (hi : i < A) : Mat A C (fillR f C i L) ∧ ∀ j k, j < A → k < C → gm none (fillR f C i L) C j k = if j = i then f i k else gm none L C j k := by
  have := run_inv (f := fun k L => sm L C i k (f i k)) (fun c L' => Mat A C L' ∧ ∀ j k, j < A → k < C → gm none L' C j k = if j = i ∧ k < c then f i k else gm none L C j k) C 0 L ⟨h, fun j k _ _ => by simp⟩ (fun c L' _ hc hI => by
    refine ⟨hI.1.set _ _ _, fun j k hj hk => ?_⟩
    rw [gm_set hI.1 hi (by omega) hk, hI.2 j k hj hk]
    by_cases e1 : i = j
    · subst e1
      by_cases e2 : c = k
      · subst e2; simp
      · by_cases e3 : k < c
        · rw [if_neg (by omega), if_pos (by omega), if_pos (by omega)]
        · rw [if_neg (by omega), if_neg (by omega), if_neg (by omega)]
    · rw [if_neg (by omega), if_neg (by omega), if_neg (by omega)])
  refine ⟨this.1, fun j k hj hk => ?_⟩
  unfold fillR
  rw [this.2 j k hj hk]
  by_cases e : j = i
  · rw [if_pos ⟨e, by omega⟩, if_pos e]
  · rw [if_neg (by omega), if_neg e]
theorem fillA_spec {f : Nat → Nat → F} {A C : Nat} {L : List F} (h : Mat A C L) : Mat A C (fillA f A C L) ∧ ∀ j k, j < A → k < C → gm none (fillA f A C L) C j k = f j k := by
  have := run_inv (f := fillR f C) (fun r L' => Mat A C L' ∧ ∀ j k, j < r → j < A → k < C → gm none L' C j k = f j k) A 0 L ⟨h, fun j k hj _ _ => by omega⟩ (fun r L' _ hr hI => by
    obtain ⟨s1, s2⟩ := fillR_spec (f := f) hI.1 (show r < A by omega)
    refine ⟨s1, fun j k hj hjA hk => ?_⟩
    rw [s2 j k hjA hk]
    by_cases e : j = r
    · rw [if_pos e, e]
    · rw [if_neg e]; exact hI.2 j k (by omega) hjA hk)
  exact ⟨this.1, fun j k hj hk => this.2 j k (by omega) hj hk⟩
def tabM (A C : Nat) (f : Nat → Nat → F) : List F := fillA f A C (List.replicate (A * C) (some 0))
theorem zmat {A C : Nat} (hA : A ≤ 12) (hC : C ≤ 12) : Mat A C (List.replicate (A * C) (some 0 : F)) := ⟨hA, hC, by simp⟩
theorem tabM_mat {A C : Nat} {f : Nat → Nat → F} (hA : A ≤ 12) (hC : C ≤ 12) : Mat A C (tabM A C f) := (fillA_spec (zmat hA hC)).1
theorem tabM_gm {A C : Nat} {f : Nat → Nat → F} (hA : A ≤ 12) (hC : C ≤ 12) {i k : Nat} (hi : i < A) (hk : k < C) : gm none (tabM A C f) C i k = f i k := (fillA_spec (zmat hA hC)).2 i k hi hk
theorem oks_of_gm {A C : Nat} {L : List F} (h : Mat A C L) (e : ∀ i k, i < A → k < C → FOk .f32 (gm none L C i k)) : FOks L := by
  intro c hc
  obtain ⟨q, hq, rfl⟩ := List.mem_iff_getElem.1 hc
  have hq' : q < A * C := by rw [← h.len]; exact hq
  have hC : 0 < C := by
    rcases Nat.eq_zero_or_pos C with h0 | h0
    · subst h0; simp at hq'
    · exact h0
  have h1 : q / C < A := (Nat.div_lt_iff_lt_mul hC).2 hq'
  have h2 : q % C < C := Nat.mod_lt _ hC
  have h3 : q / C * C + q % C = q := by rw [Nat.mul_comm]; exact Nat.div_add_mod q C
  have := e _ _ h1 h2
  unfold gm at this
  rw [h3] at this
  simpa [List.getD, hq] using this
theorem tabM_oks {A C : Nat} {f : Nat → Nat → F} (hA : A ≤ 12) (hC : C ≤ 12) (hf : ∀ i k, FOk .f32 (f i k)) : FOks (tabM A C f) := oks_of_gm (tabM_mat hA hC) fun i k hi hk => by rw [tabM_gm hA hC hi hk]; exact hf i k
theorem run_map {α : Type} (f : Nat → α) : ∀ n : Nat, run (fun i (l : List α) => l ++ [f i]) 0 n [] = (List.range n).map f
  | 0 => rfl
  | n + 1 => by rw [run_last, run_map f n]; simp [List.range_succ]
def unitF (i k : Nat) : F := bif decide (i = k) then some 1065353216 else some 0
theorem unitF_ok (i k : Nat) : FOk .f32 (unitF i k) := by
  unfold unitF
  cases decide (i = k)
  · exact ⟨0, rfl, by decide, rfl⟩
  · exact ⟨1065353216, rfl, by decide, rfl⟩
theorem i_unit_1_eq (i k : Nat) : i_unit_1 (i : Int) (k : Int) = some (unitF i k) := by
  unfold i_unit_1 unitF
  by_cases h : i = k
  · subst h; simp
  · rw [show decide ((i : Int) = (k : Int)) = false by simp; omega, show decide (i = k) = false by simp [h]]; rfl
theorem i_made_2Fi_unit_1_eq {A C : Nat} (hA : A ≤ 12) (hC : C ≤ 12) : i_made_2Fi_unit_1 (A : Int) (C : Int) = some ((A : Int), (C : Int), tabM A C unitF) := by
  have inner : ∀ (i : Nat) (L L0 : List F), i < A → Mat A C L → Mat A C L0 → loopM (i_made_2Fi_unit_1_s2 (C : Int) (A : Int) (C : Int) L0 (i : Int)) (L, 0) = some (.inl (fillR unitF C i L)) := by
    intro i L L0 hi hL hL0
    exact (loop_run (step := i_made_2Fi_unit_1_s2 (C : Int) (A : Int) (C : Int) L0 (i : Int)) (fun (k : Nat) (L : List F) => (L, (k : Int))) (fun k L => sm L C i k (unitF i k)) (fun L => L) (fun _ L => Mat A C L) (lo := 0) (n := C) (Nat.zero_le _) (s0 := L) hL
      (fun k L2 _ hk h3 => by
        refine ⟨?_, h3.set _ _ _⟩
        show i_made_2Fi_unit_1_b2 _ _ _ _ _ _ _ = _
        unfold i_made_2Fi_unit_1_b2
        have l1 : decide ((sm L2 C i k (unitF i k)).length = L0.length) = true := by simp [h3.len, hL0.len]
        rw [dlt hk, bsel_true, i_unit_1_eq, obind_eq, i_Matrix_set_02o_eq _ h3 hi hk, obind_eq, l1, need_true, wsucc (by omega)]
        rfl)
      (fun L2 _ => by
        show i_made_2Fi_unit_1_b2 _ _ _ _ _ _ _ = _
        unfold i_made_2Fi_unit_1_b2
        rw [dnlt, bsel_false])).1
  have e := (loop_run (step := i_made_2Fi_unit_1_s3 (A : Int) (C : Int) (A : Int) (C : Int) (List.replicate (A * C) (some 0))) (fun (i : Nat) (L : List F) => (L, (i : Int))) (fillR unitF C) (fun L => L) (fun _ L => Mat A C L) (lo := 0) (n := A) (Nat.zero_le _) (s0 := List.replicate (A * C) (some 0)) (zmat hA hC)
    (fun i L2 _ hi h3 => by
      refine ⟨?_, (fillR_spec h3 hi).1⟩
      show i_made_2Fi_unit_1_b3 _ _ _ _ _ _ _ = _
      unfold i_made_2Fi_unit_1_b3
      rw [dlt hi, bsel_true, inner i L2 _ hi h3 (zmat hA hC), obind_eq, osum_inl]
      unfold i_made_2Fi_unit_1_k2
      rw [wsucc (by omega)]
      rfl)
    (fun L2 _ => by
      show i_made_2Fi_unit_1_b3 _ _ _ _ _ _ _ = _
      unfold i_made_2Fi_unit_1_b3
      rw [dnlt, bsel_false])).1
  unfold i_made_2Fi_unit_1
  replace e : loopM (i_made_2Fi_unit_1_s3 (A : Int) (C : Int) (A : Int) (C : Int) (List.replicate (A * C) (some 0))) (List.replicate (A * C) (some 0), 0) = some (.inl (tabM A C unitF)) := e
  rw [i_newMatrix_eq hA hC, obind3_eq, e]; rfl
theorem i_unit_eq {n : Nat} (hn : n ≤ 12) : i_unit (n : Int) = some ((n : Int), (n : Int), tabM n n unitF) := by
  unfold i_unit
  rw [i_made_2Fi_unit_1_eq hn hn]; rfl
def colP (A C k : Nat) (L : List F) : List F := (List.range A).map fun i => gm none L C i k
theorem colP_len {A C k : Nat} {L : List F} : (colP A C k L).length = A := by simp [colP]
theorem colP_at {A C k i : Nat} {L : List F} (hi : i < A) : (colP A C k L).getD i none = gm none L C i k := by
  simp [colP, List.getD, hi]
theorem colP_oks {A C k : Nat} {L : List F} (g : FOks L) : FOks (colP A C k L) := by
  intro c hc
  obtain ⟨i, _, rfl⟩ := List.mem_map.1 hc
  exact g.getD _
theorem i_Matrix_column_eq {A C k : Nat} {L : List F} (h : Mat A C L) (hk : k < C) : i_Matrix_column (A : Int) (C : Int) L (k : Int) = some (colP A C k L) := by
  have hA := h.A1
  obtain ⟨e, _⟩ := loop_run (step := i_Matrix_column_s1 (A : Int) (C : Int) L (k : Int)) (fun (i : Nat) (l : List F) => (l, (i : Int))) (fun i l => l ++ [gm none L C i k]) (fun l => l) (fun i l => l.length = i) (lo := 0) (n := A) (Nat.zero_le _) (s0 := []) rfl
    (fun i l _ hi h3 => by
      refine ⟨?_, by simp [h3]⟩
      show i_Matrix_column_b1 _ _ _ _ _ _ = _
      unfold i_Matrix_column_b1
      have ap : apok 4 l.length 1 = true := by simp [apok]; omega
      rw [dlt hi, bsel_true, i_Matrix_at_eq _ h hi hk, obind_eq, ap, need_true, wsucc (by omega)]
      rfl)
    (fun l _ => by
      show i_Matrix_column_b1 _ _ _ _ _ _ = _
      unfold i_Matrix_column_b1
      rw [dnlt, bsel_false])
  unfold i_Matrix_column
  replace e : loopM (i_Matrix_column_s1 (A : Int) (C : Int) L (k : Int)) ([], 0) = some (.inl (run (fun i l => l ++ [gm none L C i k]) 0 (A - 0) [])) := e
  rw [e, Nat.sub_zero, run_map]; rfl
def dotE (f g : Nat → F) (i : Nat) (y : F) : F := fop .add .f32 y (fop .mul .f32 (f i) (g i))
def dotN (f g : Nat → F) (n : Nat) : F := run (dotE f g) 0 n (some 0)
theorem zero_ok : FOk .f32 (some 0) := ⟨0, rfl, by decide, rfl⟩
theorem dotN_ok (f g : Nat → F) (n : Nat) : FOk .f32 (dotN f g n) := run_inv (fun _ y => FOk .f32 y) n 0 (some 0) zero_ok fun _ _ _ _ _ => fop_fok _ _ _
theorem dotN_congr {f g f' g' : Nat → F} {n : Nat} (h : ∀ i, i < n → f i = f' i ∧ g i = g' i) : dotN f g n = dotN f' g' n :=
  run_congr (fun _ _ => True) n 0 _ trivial fun i y _ hi _ => ⟨by unfold dotE; rw [(h i (by omega)).1, (h i (by omega)).2], trivial⟩
theorem i_dot_eq {l m : List F} (hl : l.length ≤ m.length) (hs : l.length ≤ 1000000) : i_dot l m = some (dotN (fun i => l.getD i none) (fun i => m.getD i none) l.length) := by
  obtain ⟨e, _⟩ := loop_run (step := i_dot_s1 l m) (fun (i : Nat) (y : F) => (y, (i : Int))) (dotE (fun i => l.getD i none) (fun i => m.getD i none)) (fun y => y) (fun _ _ => True) (lo := 0) (n := l.length) (Nat.zero_le _) (s0 := some 0) trivial
    (fun i y _ hi _ => by
      refine ⟨?_, trivial⟩
      show i_dot_b1 _ _ _ _ = _
      unfold i_dot_b1
      rw [dlt hi, bsel_true, at?_n none hi, obind_eq, at?_n none (by omega), obind_eq, i_mul_eq, obind_eq, olet_eq, wsucc (by omega)]
      rfl)
    (fun y _ => by
      show i_dot_b1 _ _ _ _ = _
      unfold i_dot_b1
      rw [dnlt, bsel_false])
  unfold i_dot
  replace e : loopM (i_dot_s1 l m) (some 0, 0) = some (.inl (run (dotE (fun i => l.getD i none) (fun i => m.getD i none)) 0 (l.length - 0) (some 0))) := e
  rw [e]; rfl
def rowP (C i : Nat) (L : List F) : List F := (L.take ((i + 1) * C)).drop (i * C)
theorem rowP_at {A C i k : Nat} {L : List F} (m : Mat A C L) (hi : i < A) (hk : k < C) : (rowP C i L).getD k none = gm none L C i k := by
  have h1 := idx_lt hi hk
  have h2 : i * C + k < (i + 1) * C := by rw [Nat.add_mul, Nat.one_mul]; omega
  unfold rowP gm
  simp [List.getD, List.getElem?_drop, List.getElem?_take, h2]
theorem rowP_len {A C i : Nat} {L : List F} (m : Mat A C L) (hi : i < A) : (rowP C i L).length = C := by
  have h1 : (i + 1) * C ≤ A * C := Nat.mul_le_mul_right C hi
  unfold rowP
  rw [List.length_drop, List.length_take, m.len, Nat.min_eq_left h1, Nat.add_mul, Nat.one_mul]; omega
theorem sub?_n {α : Type} {L : List α} {a b : Nat} (h1 : a ≤ b) (h2 : b ≤ L.length) : sub? L (a : Int) (b : Int) = some ((L.take b).drop a) := by
  unfold sub?
  rw [if_pos (by omega)]; rfl
theorem i_Matrix_row_eq {A C i : Nat} {L : List F} (r : Int) (m : Mat A C L) (hi : i < A) : i_Matrix_row r (C : Int) L (i : Int) = some (rowP C i L) := by
  have hA := m.A1
  have h1 : (i + 1) * C ≤ A * C := Nat.mul_le_mul_right C hi
  have h2 : A * C ≤ 144 := small_mul m.A1 m.C1
  have h3 : i * C ≤ (i + 1) * C := Nat.mul_le_mul_right C (by omega)
  unfold i_Matrix_row x_slices_Clone_float32_float32
  rw [wsucc (by omega), ← Int.natCast_mul, wn (by omega), olet_eq, olet_eq, ← Int.natCast_mul, wn (by omega), olet_eq, sub?_n h3 (by rw [m.len]; exact h1), obind_eq]
  have ap : apok 4 0 ((L.take ((i + 1) * C)).drop (i * C)).length = true := by
    have := rowP_len m hi
    unfold rowP at this
    have hC := m.C1
    simp only [apok, this]; simp; omega
  rw [ap, need_true, obind_eq, List.nil_append]; rfl
def mulE (B C : Nat) (L M : List F) (i k : Nat) : F := dotN (fun j => gm none L B i j) (fun j => gm none M C j k) B
theorem mulE_ok (B C : Nat) (L M : List F) (i k : Nat) : FOk .f32 (mulE B C L M i k) := dotN_ok _ _ _
theorem i_product_1_eq {A B C i k : Nat} {L M : List F} (r : Int) (m : Mat A B L) (n : Mat B C M) (hi : i < A) (hk : k < C) : i_product_1 (i : Int) (k : Int) r (B : Int) L (B : Int) (C : Int) M = some (mulE B C L M i k) := by
  have hB := m.C1
  unfold i_product_1
  rw [i_Matrix_row_eq r m hi, obind_eq, i_Matrix_column_eq n hk, obind_eq, i_dot_eq (by rw [rowP_len m hi, colP_len]; exact Nat.le_refl _) (by rw [rowP_len m hi]; omega), obind_eq, rowP_len m hi]
  congr 1
  exact dotN_congr fun j hj => ⟨rowP_at m hi hj, colP_at hj⟩
theorem i_made_2Fi_product_1_eq {A B C : Nat} {P M : List F} (mP : Mat A B P) (mM : Mat B C M) : i_made_2Fi_product_1 (A : Int) (C : Int) (A : Int) (B : Int) P (B : Int) (C : Int) M = some ((A : Int), (C : Int), tabM A C (mulE B C P M)) := by
  have hA := mP.A1
  have hC := mM.C1
  have inner : ∀ (i : Nat) (L L0 : List F), i < A → Mat A C L → Mat A C L0 → loopM (i_made_2Fi_product_1_s2 (C : Int) (A : Int) (B : Int) P (B : Int) (C : Int) M (A : Int) (C : Int) L0 (i : Int)) (L, 0) = some (.inl (fillR (mulE B C P M) C i L)) := by
    intro i L L0 hi hL hL0
    exact (loop_run (step := i_made_2Fi_product_1_s2 (C : Int) (A : Int) (B : Int) P (B : Int) (C : Int) M (A : Int) (C : Int) L0 (i : Int)) (fun (k : Nat) (L : List F) => (L, (k : Int))) (fun k L => sm L C i k (mulE B C P M i k)) (fun L => L) (fun _ L => Mat A C L) (lo := 0) (n := C) (Nat.zero_le _) (s0 := L) hL
      (fun k L2 _ hk h3 => by
        refine ⟨?_, h3.set _ _ _⟩
        show i_made_2Fi_product_1_b2 _ _ _ _ _ _ _ _ _ _ _ _ _ = _
        unfold i_made_2Fi_product_1_b2
        have l1 : decide ((sm L2 C i k (mulE B C P M i k)).length = L0.length) = true := by simp [h3.len, hL0.len]
        rw [dlt hk, bsel_true, i_product_1_eq _ mP mM hi hk, obind_eq, i_Matrix_set_02o_eq _ h3 hi hk, obind_eq, l1, need_true, wsucc (by omega)]
        rfl)
      (fun L2 _ => by
        show i_made_2Fi_product_1_b2 _ _ _ _ _ _ _ _ _ _ _ _ _ = _
        unfold i_made_2Fi_product_1_b2
        rw [dnlt, bsel_false])).1
  have e := (loop_run (step := i_made_2Fi_product_1_s3 (A : Int) (C : Int) (A : Int) (B : Int) P (B : Int) (C : Int) M (A : Int) (C : Int) (List.replicate (A * C) (some 0))) (fun (i : Nat) (L : List F) => (L, (i : Int))) (fillR (mulE B C P M) C) (fun L => L) (fun _ L => Mat A C L) (lo := 0) (n := A) (Nat.zero_le _) (s0 := List.replicate (A * C) (some 0)) (zmat hA hC)
    (fun i L2 _ hi h3 => by
      refine ⟨?_, (fillR_spec h3 hi).1⟩
      show i_made_2Fi_product_1_b3 _ _ _ _ _ _ _ _ _ _ _ _ _ = _
      unfold i_made_2Fi_product_1_b3
      rw [dlt hi, bsel_true, inner i L2 _ hi h3 (zmat hA hC), obind_eq, osum_inl]
      unfold i_made_2Fi_product_1_k2
      rw [wsucc (by omega)]
      rfl)
    (fun L2 _ => by
      show i_made_2Fi_product_1_b3 _ _ _ _ _ _ _ _ _ _ _ _ _ = _
      unfold i_made_2Fi_product_1_b3
      rw [dnlt, bsel_false])).1
  unfold i_made_2Fi_product_1
  replace e : loopM (i_made_2Fi_product_1_s3 (A : Int) (C : Int) (A : Int) (B : Int) P (B : Int) (C : Int) M (A : Int) (C : Int) (List.replicate (A * C) (some 0))) (List.replicate (A * C) (some 0), 0) = some (.inl (tabM A C (mulE B C P M))) := e
  rw [i_newMatrix_eq hA hC, obind3_eq, e]; rfl
def mulQ (A B C : Nat) (L M : List F) : Int × Int × Bool × List F := bif (L.all fin32 && M.all fin32) && (tabM A C (mulE B C L M)).all fin32 then ((A : Int), (C : Int), true, tabM A C (mulE B C L M)) else (0, 0, false, [])
theorem i_MulMatrices_eq {A B C : Nat} {L M : List F} (m : Mat A B L) (n : Mat B C M) (g : FOks L) (h : FOks M) (hA : 0 < A) (hB : 0 < B) (hC : 0 < C) : i_MulMatrices (A : Int) (B : Int) L (B : Int) (C : Int) M = some (mulQ A B C L M) := by
  unfold i_MulMatrices i_areFactors mulQ
  have mR : Mat A C (tabM A C (mulE B C L M)) := tabM_mat m.A1 n.C1
  have gR : FOks (tabM A C (mulE B C L M)) := tabM_oks m.A1 n.C1 (mulE_ok B C L M)
  rw [i_ValidMatrix_eq _ _ g m.le, mat_valid m hA hB, i_ValidMatrix_eq _ _ h n.le, mat_valid n hB hC]
  cases L.all fin32 with
  | false => rfl
  | true =>
    cases M.all fin32 with
    | false => rfl
    | true =>
      have e : decide ((B : Int) = (B : Int)) = true := by simp
      simp only [obind_eq, bsel_true, e, Bool.true_and]
      unfold i_product
      rw [i_made_2Fi_product_1_eq m n, obind3_eq, obind3_eq]
      unfold i_Matrix_valid_02o
      rw [i_ValidMatrix_eq _ _ gR mR.le, mat_valid mR hA hC]
      cases (tabM A C (mulE B C L M)).all fin32 with
      | false => simp [osum, obind, need, obind5, bsel]
      | true => simp [osum, obind, need, obind4, bsel]
abbrev gI (l : List Int) (i : Nat) : Int := l.getD i 0
structure SpIn (S : Nat) (a1 a2 : List Int) : Prop where
  S1 : 1 ≤ S
  S2 : S ≤ 32
  l1 : a1.length = S + 1
  l2 : a2.length ≤ 512
  z : gI a1 0 = 0
  e : gI a1 S = (a2.length : Int)
structure SpGood (S : Nat) (a1 a2 : List Int) : Prop where
  s : ∀ i, i < S → gI a1 i ≤ gI a1 (i + 1)
  c : ∀ k, k < a2.length → 0 ≤ gI a2 k ∧ gI a2 k ≤ (S : Int) - 1
  o : ∀ i, i < S → ∀ k : Nat, gI a1 i < (k : Int) → (k : Int) < gI a1 (i + 1) → gI a2 (k - 1) < gI a2 k
theorem SpGood.mono {S : Nat} {a1 a2 : List Int} (h : SpGood S a1 a2) : ∀ (d i : Nat), i + d ≤ S → gI a1 i ≤ gI a1 (i + d)
  | 0, i, _ => Int.le_refl _
  | d + 1, i, hd => Int.le_trans (h.mono d i (by omega)) (h.s (i + d) (by omega))
theorem SpGood.lo {S : Nat} {a1 a2 : List Int} (h : SpGood S a1 a2) (i0 : SpIn S a1 a2) {i : Nat} (hi : i ≤ S) : 0 ≤ gI a1 i ∧ gI a1 i ≤ (a2.length : Int) := by
  have h1 := h.mono i 0 (by omega)
  have h2 := h.mono (S - i) i (by omega)
  rw [Nat.zero_add, i0.z] at h1
  rw [show i + (S - i) = S by omega, i0.e] at h2
  exact ⟨h1, h2⟩
def zipW (f : F → F → F) (n : Nat) (l m : List F) : List F := (List.range n).map fun i => f (l.getD i none) (m.getD i none)
def fms (t x y : F) : F := fop .sub .f32 x (fop .mul .f32 t y)
structure SpOk (S : Nat) (a1 a2 : List Int) (a3 : List F) : Prop where
  i : SpIn S a1 a2
  g : SpGood S a1 a2
  l : a3.length = a2.length
theorem SpOk.row {S : Nat} {a1 a2 : List Int} {a3 : List F} (h : SpOk S a1 a2 a3) {i : Nat} (hi : i < S) : 0 ≤ gI a1 i ∧ gI a1 i ≤ gI a1 (i + 1) ∧ gI a1 (i + 1) ≤ (a2.length : Int) :=
  ⟨(h.g.lo h.i (by omega)).1, h.g.s i hi, (h.g.lo h.i (i := i + 1) (by omega)).2⟩
abbrev GrS := List F × List F × List F × F
def gR (S : Nat) (q : List F) (t : F) (s : GrS) : List F := zipW (fms t) S s.2.1 q
def loK (a1 : List Int) (i : Nat) : Nat := (gI a1 i).toNat
def laK (a1 : List Int) (i : Nat) : Nat := (gI a1 (i + 1)).toNat - 1
structure Root (S : Nat) (a1 a2 : List Int) (a3 : List F) : Prop where
  ok : SpOk S a1 a2 a3
  low : ∀ i, i < S → gI a1 i ≤ gI a1 (i + 1) - 1 ∧ gI a2 (laK a1 i) = (i : Int)
theorem Root.at {S : Nat} {a1 a2 : List Int} {a3 : List F} (h : Root S a1 a2 a3) {i : Nat} (hi : i < S) : loK a1 i ≤ laK a1 i ∧ laK a1 i < a2.length ∧ ((laK a1 i : Nat) : Int) = gI a1 (i + 1) - 1 ∧ ((loK a1 i : Nat) : Int) = gI a1 i := by
  obtain ⟨r1, r2, r3⟩ := h.ok.row hi
  obtain ⟨q1, _⟩ := h.low i hi
  unfold loK laK
  omega
def vget (v : List F) (x : Int) : F := v.getD x.toNat none
def Names (n : Nat) (L : List Int) : Prop := ∀ x ∈ L, 0 ≤ x ∧ x < (n : Int)
theorem Names.at {n : Nat} {L : List Int} (h : Names n L) {j : Nat} (hj : j < L.length) : 0 ≤ L.getD j 0 ∧ L.getD j 0 < (n : Int) := by
  rw [List.getD_eq_getElem?_getD, List.getElem?_eq_getElem hj]
  exact h _ (List.getElem_mem hj)
theorem Names.set {n : Nat} {L : List Int} (h : Names n L) {j : Nat} {x : Int} (hx : 0 ≤ x ∧ x < (n : Int)) : Names n (L.set j x) := fun y hy => (List.mem_or_eq_of_mem_set hy).elim (fun k => h y k) (fun k => by rw [k]; exact hx)
theorem vget_mem {v : List F} {x : Int} (h0 : 0 ≤ x) (h1 : x < (v.length : Int)) : vget v x ∈ v := by
  unfold vget
  rw [List.getD_eq_getElem?_getD, List.getElem?_eq_getElem (by omega)]
  exact List.getElem_mem _
def wkey (c : F) : Nat := c.getD 0
def sqW (v : List F) (x : Int) : Nat := wkey (vget v x)
def SqOk (v : List F) : Prop := ∀ c ∈ v, ∃ b, c = some b ∧ b ≤ 2139095040
theorem SqOk.at {v : List F} (h : SqOk v) {x : Int} (h0 : 0 ≤ x) (h1 : x < (v.length : Int)) : vget v x = some (sqW v x) ∧ sqW v x ≤ 2139095040 := by
  obtain ⟨b, e, hb⟩ := h _ (vget_mem h0 h1)
  unfold sqW
  rw [e]; exact ⟨rfl, hb⟩
def vecB (b : List F) : Bool := decide (1 ≤ b.length) && (decide (b.length ≤ 256) && b.all fin32)
theorem i_IsVector_eq {b : List F} (g : FOks b) (s : b.length ≤ 1048576) : i_IsVector b = some (vecB b) := by
  unfold i_IsVector i_length_float32 vecB
  rw [obind_eq, i_inRange_eq, obind_eq]
  by_cases h1 : 1 ≤ b.length
  · rw [decide_eq_true h1, decide_eq_true (show (1 : Int) ≤ (b.length : Int) by omega), Bool.true_and, Bool.true_and]
    by_cases h2 : b.length ≤ 256
    · rw [decide_eq_true h2, decide_eq_true (show (b.length : Int) ≤ 256 by omega), bsel_true, Bool.true_and, i_areFinite_eq g s, obind_eq]
    · rw [decide_eq_false h2, decide_eq_false (show ¬ (b.length : Int) ≤ 256 by omega), bsel_false, Bool.false_and]
  · rw [decide_eq_false h1, decide_eq_false (show ¬ (1 : Int) ≤ (b.length : Int) by omega), Bool.false_and, Bool.false_and, bsel_false]
theorem wi64 {n : Int} (h0 : -9000000000000000000 ≤ n) (h1 : n ≤ 9000000000000000000) : IntKind.i64.wrap n = n := wrap_i64 (by omega) (by omega)
theorem u64_wrap {n : Int} (h0 : 0 ≤ n) (h1 : n < 18446744073709551616) : IntKind.u64.wrap n = n := by
  simp only [IntKind.wrap, IntKind.bits, IntKind.signed]
  simp
  omega
def Byt (l : List Int) : Prop := ∀ z ∈ l, 0 ≤ z ∧ z < 256
theorem byt_of {l : List Int} (h : ∀ z ∈ l, (Lit.int .u8 z).wf = true) : Byt l := by
  intro z hz
  have := h z hz
  have e0 : IntKind.u8.min = 0 := by decide
  have e1 : IntKind.u8.max = 255 := by decide
  simp only [Lit.wf, e0, e1, Bool.and_eq_true, decide_eq_true_eq] at this
  constructor <;> omega
theorem iand255 (x : Int) : ∃ d : Nat, d < 256 ∧ iand .u64 x 255 = (d : Int) := by
  have hle : (BitVec.ofInt 64 x &&& BitVec.ofInt 64 255).toNat ≤ 255 := by
    rw [BitVec.toNat_and, show (BitVec.ofInt 64 255).toNat = 255 from by decide]
    exact Nat.and_le_right
  refine ⟨_, Nat.lt_of_le_of_lt hle (by decide), ?_⟩
  show IntKind.u64.wrap (((BitVec.ofInt 64 x &&& BitVec.ofInt 64 255).toNat : Nat) : Int) = _
  exact u64_wrap (by omega) (by omega)
theorem src_k1 {a : List Int} {t v : Nat} {s : Int} (ht : t ≤ 1000000) (hv : v < 256) : ∃ (w : Nat) (s' : Int), w < 256 ∧ s_l00Src_next_0p0_C0_k1 a (t : Int) s (v : Int) = some ((w : Int), ((t + 1 : Nat) : Int), s') := by
  unfold s_l00Src_next_0p0_C0_k1
  simp only [olet_eq]
  rw [wsucc (by omega)]
  generalize IntKind.u64.wrap (IntKind.u64.wrap (IntKind.u64.wrap (s * 6364136223846793005) + IntKind.u64.wrap (v : Int)) + 1442695040888963407) = X
  by_cases h : t + 1 ≤ a.length
  · rw [decide_eq_true (by omega), bsel_true]; exact ⟨v, _, hv, rfl⟩
  · obtain ⟨d, hd, e⟩ := iand255 (ishr .u64 X 40)
    rw [decide_eq_false (by omega), bsel_false, show decide ((0 : Int) ≤ 40) = true from rfl, need_true, e, wi64 (by omega) (by omega)]
    exact ⟨d, _, hd, rfl⟩
theorem src_next {a : List Int} (ha : Byt a) {t : Nat} (ht : t ≤ 1000000) (s : Int) : ∃ (v : Nat) (s' : Int), v < 256 ∧ s_l00Src_next_0p0_C0 a (t : Int) s = some ((v : Int), ((t + 1 : Nat) : Int), s') := by
  by_cases h : t < a.length
  · obtain ⟨x, hx⟩ : ∃ x, a[t]? = some x := ⟨_, List.getElem?_eq_getElem h⟩
    obtain ⟨x0, x1⟩ := ha x (List.mem_of_getElem? hx)
    have e : s_l00Src_next_0p0_C0 a (t : Int) s = s_l00Src_next_0p0_C0_k1 a (t : Int) s ((x.toNat : Nat) : Int) := by
      unfold s_l00Src_next_0p0_C0
      rw [decide_eq_true (by omega), bsel_true, at?_of (by omega) (by rw [show (t : Int).toNat = t from by omega]; exact hx), obind_eq, olet_eq, wi64 (by omega) (by omega)]
      congr 1; omega
    rw [e]; exact src_k1 ht (by omega)
  · have e : s_l00Src_next_0p0_C0 a (t : Int) s = s_l00Src_next_0p0_C0_k1 a (t : Int) s ((0 : Nat) : Int) := by
      unfold s_l00Src_next_0p0_C0
      rw [decide_eq_false (by omega), bsel_false]
      congr 1
    rw [e]; exact src_k1 ht (by decide)
theorem src_pick {a : List Int} (ha : Byt a) {n t : Nat} (h1 : 1 ≤ n) (h2 : n ≤ 200) (ht : t ≤ 1000000) (s : Int) : ∃ (v t' : Nat) (s' : Int), v < n ∧ t' ≤ t + 1 ∧ s_l00Src_pick_0p0_C0 (n : Int) a (t : Int) s = some ((v : Int), (t' : Int), s') := by
  unfold s_l00Src_pick_0p0_C0
  by_cases h : n ≤ 1
  · rw [decide_eq_true (by omega), bsel_true]; exact ⟨0, t, s, by omega, by omega, rfl⟩
  · obtain ⟨v, s', hv, e⟩ := src_next ha ht s
    rw [decide_eq_false (by omega), bsel_false, e, obind3_eq, decide_eq_false (by omega), bsel_false]
    unfold s_l00Src_pick_0p0_C0_k1
    rw [decide_eq_false (by omega), Bool.not_false, need_true]
    simp only [olet_eq]
    refine ⟨v % n, t + 1, s', Nat.mod_lt _ (by omega), Nat.le_refl _, ?_⟩
    rw [Int.tmod_eq_emod_of_nonneg (by omega), Int.natCast_emod]
theorem r8at {a : List Int} (ha : Byt a) {k n : Nat} (h1 : 1 ≤ n) : ∃ v : Nat, v < n ∧ w_r8At a (k : Int) (n : Int) = some (v : Int) := by
  unfold w_r8At
  by_cases h : n ≤ 1
  · rw [decide_eq_true (by omega), bsel_true]; exact ⟨0, by omega, rfl⟩
  · rw [decide_eq_false (by omega), bsel_false]
    by_cases hk : a.length ≤ k
    · rw [decide_eq_true (by omega), bsel_true]; exact ⟨0, by omega, rfl⟩
    · obtain ⟨x, hx⟩ : ∃ x, a[k]? = some x := ⟨_, List.getElem?_eq_getElem (by omega)⟩
      obtain ⟨x0, x1⟩ := ha x (List.mem_of_getElem? hx)
      rw [decide_eq_false (by omega), bsel_false, at?_of (by omega) (by rw [show (k : Int).toNat = k from by omega]; exact hx), obind_eq]
      simp only [olet_eq]
      rw [wi64 (by omega) (by omega), decide_eq_false (by omega), Bool.not_false, need_true]
      refine ⟨x.toNat % n, Nat.mod_lt _ (by omega), ?_⟩
      rw [Int.tmod_eq_emod_of_nonneg (by omega), Int.natCast_emod, show ((x.toNat : Nat) : Int) = x from by omega]
def Qd (x : F) : Prop := ∃ q : Int, q.natAbs ≤ 16 ∧ Dy .f32 2 q x
open Classical in
noncomputable def qv (x : F) : Int := if h : Qd x then h.choose else 0
theorem qv_le (x : F) : (qv x).natAbs ≤ 16 := by
  unfold qv
  split
  · rename_i h; exact h.choose_spec.1
  · decide
theorem qd_dy {x : F} (h : Qd x) : Dy .f32 2 (qv x) x := by
  unfold qv
  rw [dif_pos h]; exact h.choose_spec.2
theorem four_dy : Dy .f32 0 4 (some 1082130432) := by
  have e : fint .f32 4 = some 1082130432 := by decide +kernel
  rw [← e]; exact Dy.int (by decide)
theorem quarter {n : Int} (h : n.natAbs ≤ 16) : Qd (fop .quo .f32 (fint .f32 n) (some 1082130432)) := by
  have hd : (2 : Nat) ^ dgn .f32 = 16777216 := by decide
  have h1 : Dy .f32 0 n (fint .f32 n) := Dy.int (by omega)
  have h2 := h1.scale (t := 2) (by decide)
  exact ⟨n, h, Dy.quo (s := 2) (t := 0) h2 four_dy (by decide) (by omega) (by omega)⟩
theorem draw_loop {a : List Int} (ha : Byt a) : ∀ (m t : Nat) (L : List F) (s : Int), t + m ≤ 800000 → L.length + m ≤ 1000 →
    ∃ (L' : List F) (t' : Nat) (s' : Int), L'.length = m ∧ t' ≤ t + m ∧ (∀ x ∈ L', Qd x) ∧ loopM (s_l02DrawSides_0p0_C0_s1 a) (L, (t : Int), s, (m : Int)) = some (.inl (L ++ L', (t' : Int), s'))
  | 0, t, L, s, ht, hL => by
    refine ⟨[], t, s, rfl, by omega, fun x hx => by simp at hx, ?_⟩
    rw [loopM_out (e := (L, (t : Int), s))]
    · simp
    · show s_l02DrawSides_0p0_C0_b1 a L (t : Int) s ((0 : Nat) : Int) = _
      unfold s_l02DrawSides_0p0_C0_b1
      rw [decide_eq_false (by omega), bsel_false]
  | m + 1, t, L, s, ht, hL => by
    obtain ⟨v, t1, s1, hv, ht1, e⟩ := src_pick ha (n := 33) (t := t) (by decide) (by decide) (by omega) s
    have e : s_l00Src_pick_0p0_C0 33 a (t : Int) s = _ := e
    have st : s_l02DrawSides_0p0_C0_s1 a (L, (t : Int), s, ((m + 1 : Nat) : Int)) = some (.next (L ++ [fop .quo .f32 (fint .f32 ((v : Int) - 16)) (some 1082130432)], (t1 : Int), s1, (m : Int))) := by
      show s_l02DrawSides_0p0_C0_b1 a L (t : Int) s ((m + 1 : Nat) : Int) = _
      unfold s_l02DrawSides_0p0_C0_b1
      rw [decide_eq_true (by omega), bsel_true, e, obind3_eq]
      simp only [olet_eq]
      rw [wi64 (by omega) (by omega), show apok 4 L.length 1 = true from by simp only [apok, Bool.and_eq_true, decide_eq_true_eq]; omega, need_true, wi64 (by omega) (by omega), show ((m + 1 : Nat) : Int) - 1 = (m : Int) from by omega]
    obtain ⟨L', t', s', h1, h2, h3, h4⟩ := draw_loop ha m t1 (L ++ [fop .quo .f32 (fint .f32 ((v : Int) - 16)) (some 1082130432)]) s1 (by omega) (by simp; omega)
    refine ⟨fop .quo .f32 (fint .f32 ((v : Int) - 16)) (some 1082130432) :: L', t', s', by simp [h1], by omega, ?_, ?_⟩
    · intro x hx
      rcases List.mem_cons.1 hx with rfl | hx
      · exact quarter (by omega)
      · exact h3 x hx
    · rw [loopM_next st, h4]; simp
structure QM (A C : Nat) (L : List F) : Prop where
  m : Mat A C L
  q : ∀ x ∈ L, Qd x
theorem QM.at {A C : Nat} {L : List F} (h : QM A C L) {i k : Nat} (hi : i < A) (hk : k < C) : Qd (gm none L C i k) := by
  have := h.m.lt hi hk
  unfold gm
  exact h.q _ (List.mem_of_getElem? (getD_of_lt none this))
theorem QM.oks {A C : Nat} {L : List F} (h : QM A C L) : FOks L := fun x hx => (qd_dy (h.q x hx)).fok
theorem QM.fin {A C : Nat} {L : List F} (h : QM A C L) : L.all fin32 = true := List.all_eq_true.2 fun x hx => (qd_dy (h.q x hx)).fin
theorem draw_sides {a : List Int} (ha : Byt a) {R C t : Nat} (hR : R ≤ 12) (hC : C ≤ 12) (ht : t ≤ 1000) (s : Int) :
    ∃ (L : List F) (t' : Nat) (s' : Int), QM R C L ∧ t' ≤ t + 144 ∧ s_l02DrawSides_0p0_C0 (R : Int) (C : Int) a (t : Int) s = some ((R : Int), (C : Int), (t' : Int), s', L) := by
  have hRC := small_mul hR hC
  obtain ⟨L, t', s', h1, h2, h3, h4⟩ := draw_loop ha (R * C) t [] s (by omega) (by simp; omega)
  refine ⟨L, t', s', ⟨⟨hR, hC, h1⟩, h3⟩, by omega, ?_⟩
  unfold s_l02DrawSides_0p0_C0 s_l02Blank
  rw [obind3_eq, ← Int.natCast_mul, wn (by omega), olet_eq, h4]
  simp only [obind_eq, osum]
  unfold s_l02DrawSides_0p0_C0_k1
  rw [List.nil_append]
theorem r8sides {a : List Int} (ha : Byt a) {R C : Nat} (hR : R ≤ 12) (hC : C ≤ 12) : ∃ L : List F, QM R C L ∧ s_R8Sides a (R : Int) (C : Int) = some ((R : Int), (C : Int), L) := by
  obtain ⟨L, t', s', h1, _, h2⟩ := draw_sides ha (t := 0) hR hC (by omega) 0
  refine ⟨L, h1, ?_⟩
  unfold s_R8Sides s_l00From
  have h2 : s_l02DrawSides_0p0_C0 (R : Int) (C : Int) a 0 0 = _ := h2
  rw [obind3_eq, h2, obind5_eq]
theorem r8matrix {a : List Int} (ha : Byt a) : ∃ (R C : Nat) (L : List F), 1 ≤ R ∧ R ≤ 5 ∧ 1 ≤ C ∧ C ≤ 5 ∧ QM R C L ∧ s_R8Matrix a = some ((R : Int), (C : Int), L) := by
  obtain ⟨v1, t1, s1, hv1, ht1, e1⟩ := src_pick ha (n := 5) (t := 0) (by decide) (by decide) (by omega) 0
  obtain ⟨v2, t2, s2, hv2, ht2, e2⟩ := src_pick ha (n := 5) (t := t1) (by decide) (by decide) (by omega) s1
  obtain ⟨L, t', s', h1, _, h2⟩ := draw_sides ha (R := 1 + v1) (C := 1 + v2) (t := t2) (by omega) (by omega) (by omega) s2
  have e1 : s_l00Src_pick_0p0_C0 5 a 0 0 = _ := e1
  have e2 : s_l00Src_pick_0p0_C0 5 a (t1 : Int) s1 = _ := e2
  refine ⟨1 + v1, 1 + v2, L, by omega, by omega, by omega, by omega, h1, ?_⟩
  unfold s_R8Matrix s_l00From s_l02DrawOk_0p0_C0
  rw [obind3_eq, e1, obind3_eq]
  simp only [olet_eq]
  rw [wi64 (by omega) (by omega), e2, obind3_eq, wi64 (by omega) (by omega), show (1 : Int) + (v1 : Int) = ((1 + v1 : Nat) : Int) from by omega, show (1 : Int) + (v2 : Int) = ((1 + v2 : Nat) : Int) from by omega, h2, obind5_eq, obind5_eq]
def isum (f : Nat → Int) : Nat → Int
  | 0 => 0
  | n + 1 => isum f n + f n
theorem isum_le {f : Nat → Int} {B : Nat} : ∀ {n : Nat}, (∀ j, j < n → (f j).natAbs ≤ B) → (isum f n).natAbs ≤ n * B
  | 0, _ => by simp [isum]
  | n + 1, h => by
    have h1 := isum_le (n := n) fun j hj => h j (by omega)
    have h2 := h n (by omega)
    unfold isum
    rw [Nat.add_mul, Nat.one_mul]; omega
theorem isum_add (f : Nat → Int) (a : Nat) : ∀ b : Nat, isum f (a + b) = isum f a + isum (fun j => f (a + j)) b
  | 0 => by simp [isum]
  | b + 1 => by
    show isum f (a + b) + f (a + b) = isum f a + (isum (fun j => f (a + j)) b + f (a + b))
    rw [isum_add f a b]; omega
theorem isum_congr {f g : Nat → Int} : ∀ {n : Nat}, (∀ j, j < n → f j = g j) → isum f n = isum g n
  | 0, _ => rfl
  | n + 1, h => by
    unfold isum
    rw [isum_congr (n := n) fun j hj => h j (by omega), h n (by omega)]
theorem isum_delta (f : Nat → Int) (k : Nat) : ∀ n : Nat, isum (fun j => f j * (if j = k then 1 else 0)) n = if k < n then f k else 0
  | 0 => by simp [isum]
  | n + 1 => by
    unfold isum
    rw [isum_delta f k n]
    by_cases h : n = k
    · subst h
      rw [if_neg (by omega), if_pos rfl, if_pos (by omega)]; omega
    · rw [if_neg h]
      by_cases h2 : k < n
      · rw [if_pos h2, if_pos (by omega)]; omega
      · rw [if_neg h2, if_neg (by omega)]; omega
theorem dotN_dy {f g : Nat → F} {p q : Nat → Int} {s t B : Nat} (hst : s + t ≤ 149) : ∀ n : Nat, (∀ j, j < n → Dy .f32 s (p j) (f j) ∧ Dy .f32 t (q j) (g j) ∧ (p j * q j).natAbs ≤ B) → n * B < 16777216 → Dy .f32 (s + t) (isum (fun j => p j * q j) n) (dotN f g n)
  | 0, _, _ => Dy.zero .f32 hst
  | n + 1, h, hB => by
    rw [Nat.add_mul, Nat.one_mul] at hB
    have hd : (2 : Nat) ^ dgn .f32 = 16777216 := by decide
    have ih := dotN_dy hst n (fun j hj => h j (by omega)) (by omega)
    obtain ⟨h1, h2, h3⟩ := h n (by omega)
    have hs := isum_le (f := fun j => p j * q j) (n := n) (B := B) fun j hj => (h j (by omega)).2.2
    have e : dotN f g (n + 1) = fop .add .f32 (dotN f g n) (fop .mul .f32 (f n) (g n)) := by
      unfold dotN
      rw [run_last, Nat.zero_add]; rfl
    rw [e]
    exact ih.add (h1.mul h2 hst (by omega)) (by rw [hd]; show (isum (fun j => p j * q j) n + p n * q n).natAbs < _; omega)
theorem mul_bound {x y : Int} (hx : x.natAbs ≤ 16) (hy : y.natAbs ≤ 16) : (x * y).natAbs ≤ 256 := by
  rw [Int.natAbs_mul]
  exact Nat.mul_le_mul hx hy
theorem mulE_dy {A B C : Nat} {L M : List F} (hL : QM A B L) (hM : QM B C M) {i k : Nat} (hi : i < A) (hk : k < C) : Dy .f32 4 (isum (fun j => qv (gm none L B i j) * qv (gm none M C j k)) B) (mulE B C L M i k) :=
  dotN_dy (s := 2) (t := 2) (B := 256) (by decide) B (fun j hj => ⟨qd_dy (hL.at hi hj), qd_dy (hM.at hj hk), mul_bound (qv_le _) (qv_le _)⟩) (by have := hL.m.C1; omega)
theorem mem_gm {A C : Nat} {L : List F} (h : Mat A C L) {x : F} (hx : x ∈ L) : ∃ i k, i < A ∧ k < C ∧ x = gm none L C i k := by
  obtain ⟨q, hq, rfl⟩ := List.mem_iff_getElem.1 hx
  have hq' : q < A * C := by rw [← h.len]; exact hq
  have hC : 0 < C := by
    rcases Nat.eq_zero_or_pos C with h0 | h0
    · subst h0; simp at hq'
    · exact h0
  have h3 : q / C * C + q % C = q := by rw [Nat.mul_comm]; exact Nat.div_add_mod q C
  refine ⟨q / C, q % C, (Nat.div_lt_iff_lt_mul hC).2 hq', Nat.mod_lt _ hC, ?_⟩
  unfold gm
  rw [h3]
  simp [List.getD, hq]
theorem tab_fin {A C : Nat} {f : Nat → Nat → F} (hA : A ≤ 12) (hC : C ≤ 12) (hf : ∀ i k, i < A → k < C → fin32 (f i k) = true) : (tabM A C f).all fin32 = true := by
  refine List.all_eq_true.2 fun x hx => ?_
  obtain ⟨i, k, hi, hk, rfl⟩ := mem_gm (tabM_mat hA hC) hx
  rw [tabM_gm hA hC hi hk]; exact hf i k hi hk
theorem mul_quart {A B C : Nat} {L M : List F} (hL : QM A B L) (hM : QM B C M) (hA : 0 < A) (hB : 0 < B) (hC : 0 < C) : i_MulMatrices (A : Int) (B : Int) L (B : Int) (C : Int) M = some ((A : Int), (C : Int), true, tabM A C (mulE B C L M)) := by
  rw [i_MulMatrices_eq hL.m hM.m hL.oks hM.oks hA hB hC]
  unfold mulQ
  rw [hL.fin, hM.fin, tab_fin hL.m.A1 hM.m.C1 fun i k hi hk => (mulE_dy hL hM hi hk).fin]; rfl
theorem i_made_2Fi_MulBlocks_1_mk {A C : Nat} (hA : A ≤ 12) (hC : C ≤ 12) (a2 a3 : Int) (a4 : List F) (a5 a6 : Int) (a7 : List F) (a8 : Int) {K : Nat → Nat → F} (hK : ∀ i k : Nat, i < A → k < C → i_MulBlocks_1 (i : Int) (k : Int) a2 a3 a4 a5 a6 a7 a8 = some (K i k)) : i_made_2Fi_MulBlocks_1 (A : Int) (C : Int) a2 a3 a4 a5 a6 a7 a8 = some ((A : Int), (C : Int), tabM A C K) := by
  have inner : ∀ (i : Nat) (L L0 : List F), i < A → Mat A C L → Mat A C L0 → loopM (i_made_2Fi_MulBlocks_1_s2 (C : Int) a2 a3 a4 a5 a6 a7 a8 (A : Int) (C : Int) L0 (i : Int)) (L, 0) = some (.inl (fillR K C i L)) := by
    intro i L L0 hi hL hL0
    exact (loop_run (step := i_made_2Fi_MulBlocks_1_s2 (C : Int) a2 a3 a4 a5 a6 a7 a8 (A : Int) (C : Int) L0 (i : Int)) (fun (k : Nat) (L : List F) => (L, (k : Int))) (fun k L => sm L C i k (K i k)) (fun L => L) (fun _ L => Mat A C L) (lo := 0) (n := C) (Nat.zero_le _) (s0 := L) hL
      (fun k L2 _ hk h3 => by
        refine ⟨?_, h3.set _ _ _⟩
        show i_made_2Fi_MulBlocks_1_b2 (C : Int) a2 a3 a4 a5 a6 a7 a8 (A : Int) (C : Int) L0 (i : Int) L2 (k : Int) = _
        unfold i_made_2Fi_MulBlocks_1_b2
        have l1 : decide ((sm L2 C i k (K i k)).length = L0.length) = true := by simp [h3.len, hL0.len]
        rw [dlt hk, bsel_true, hK i k hi hk, obind_eq, i_Matrix_set_02o_eq _ h3 hi hk, obind_eq, l1, need_true, wsucc (by omega)]
        rfl)
      (fun L2 _ => by
        show i_made_2Fi_MulBlocks_1_b2 (C : Int) a2 a3 a4 a5 a6 a7 a8 (A : Int) (C : Int) L0 (i : Int) L2 (C : Int) = _
        unfold i_made_2Fi_MulBlocks_1_b2
        rw [dnlt, bsel_false])).1
  have e := (loop_run (step := i_made_2Fi_MulBlocks_1_s3 (A : Int) (C : Int) a2 a3 a4 a5 a6 a7 a8 (A : Int) (C : Int) (List.replicate (A * C) (some 0))) (fun (i : Nat) (L : List F) => (L, (i : Int))) (fillR K C) (fun L => L) (fun _ L => Mat A C L) (lo := 0) (n := A) (Nat.zero_le _) (s0 := List.replicate (A * C) (some 0)) (zmat hA hC)
    (fun i L2 _ hi h3 => by
      refine ⟨?_, (fillR_spec h3 hi).1⟩
      show i_made_2Fi_MulBlocks_1_b3 (A : Int) (C : Int) a2 a3 a4 a5 a6 a7 a8 (A : Int) (C : Int) (List.replicate (A * C) (some 0)) L2 (i : Int) = _
      unfold i_made_2Fi_MulBlocks_1_b3
      rw [dlt hi, bsel_true, inner i L2 _ hi h3 (zmat hA hC), obind_eq, osum_inl]
      unfold i_made_2Fi_MulBlocks_1_k2
      rw [wsucc (by omega)]
      rfl)
    (fun L2 _ => by
      show i_made_2Fi_MulBlocks_1_b3 (A : Int) (C : Int) a2 a3 a4 a5 a6 a7 a8 (A : Int) (C : Int) (List.replicate (A * C) (some 0)) L2 (A : Int) = _
      unfold i_made_2Fi_MulBlocks_1_b3
      rw [dnlt, bsel_false])).1
  unfold i_made_2Fi_MulBlocks_1
  replace e : loopM (i_made_2Fi_MulBlocks_1_s3 (A : Int) (C : Int) a2 a3 a4 a5 a6 a7 a8 (A : Int) (C : Int) (List.replicate (A * C) (some 0))) (List.replicate (A * C) (some 0), 0) = some (.inl (tabM A C K)) := e
  rw [i_newMatrix_eq hA hC, obind3_eq, e]; rfl
theorem i_made_2Fi_Matrix_flip_1_mk {A C : Nat} (hA : A ≤ 12) (hC : C ≤ 12) (a2 a3 : Int) (a4 : List F) {K : Nat → Nat → F} (hK : ∀ i k : Nat, i < A → k < C → i_Matrix_flip_1 (i : Int) (k : Int) a2 a3 a4 = some (K i k)) : i_made_2Fi_Matrix_flip_1 (A : Int) (C : Int) a2 a3 a4 = some ((A : Int), (C : Int), tabM A C K) := by
  have inner : ∀ (i : Nat) (L L0 : List F), i < A → Mat A C L → Mat A C L0 → loopM (i_made_2Fi_Matrix_flip_1_s2 (C : Int) a2 a3 a4 (A : Int) (C : Int) L0 (i : Int)) (L, 0) = some (.inl (fillR K C i L)) := by
    intro i L L0 hi hL hL0
    exact (loop_run (step := i_made_2Fi_Matrix_flip_1_s2 (C : Int) a2 a3 a4 (A : Int) (C : Int) L0 (i : Int)) (fun (k : Nat) (L : List F) => (L, (k : Int))) (fun k L => sm L C i k (K i k)) (fun L => L) (fun _ L => Mat A C L) (lo := 0) (n := C) (Nat.zero_le _) (s0 := L) hL
      (fun k L2 _ hk h3 => by
        refine ⟨?_, h3.set _ _ _⟩
        show i_made_2Fi_Matrix_flip_1_b2 (C : Int) a2 a3 a4 (A : Int) (C : Int) L0 (i : Int) L2 (k : Int) = _
        unfold i_made_2Fi_Matrix_flip_1_b2
        have l1 : decide ((sm L2 C i k (K i k)).length = L0.length) = true := by simp [h3.len, hL0.len]
        rw [dlt hk, bsel_true, hK i k hi hk, obind_eq, i_Matrix_set_02o_eq _ h3 hi hk, obind_eq, l1, need_true, wsucc (by omega)]
        rfl)
      (fun L2 _ => by
        show i_made_2Fi_Matrix_flip_1_b2 (C : Int) a2 a3 a4 (A : Int) (C : Int) L0 (i : Int) L2 (C : Int) = _
        unfold i_made_2Fi_Matrix_flip_1_b2
        rw [dnlt, bsel_false])).1
  have e := (loop_run (step := i_made_2Fi_Matrix_flip_1_s3 (A : Int) (C : Int) a2 a3 a4 (A : Int) (C : Int) (List.replicate (A * C) (some 0))) (fun (i : Nat) (L : List F) => (L, (i : Int))) (fillR K C) (fun L => L) (fun _ L => Mat A C L) (lo := 0) (n := A) (Nat.zero_le _) (s0 := List.replicate (A * C) (some 0)) (zmat hA hC)
    (fun i L2 _ hi h3 => by
      refine ⟨?_, (fillR_spec h3 hi).1⟩
      show i_made_2Fi_Matrix_flip_1_b3 (A : Int) (C : Int) a2 a3 a4 (A : Int) (C : Int) (List.replicate (A * C) (some 0)) L2 (i : Int) = _
      unfold i_made_2Fi_Matrix_flip_1_b3
      rw [dlt hi, bsel_true, inner i L2 _ hi h3 (zmat hA hC), obind_eq, osum_inl]
      unfold i_made_2Fi_Matrix_flip_1_k2
      rw [wsucc (by omega)]
      rfl)
    (fun L2 _ => by
      show i_made_2Fi_Matrix_flip_1_b3 (A : Int) (C : Int) a2 a3 a4 (A : Int) (C : Int) (List.replicate (A * C) (some 0)) L2 (A : Int) = _
      unfold i_made_2Fi_Matrix_flip_1_b3
      rw [dnlt, bsel_false])).1
  unfold i_made_2Fi_Matrix_flip_1
  replace e : loopM (i_made_2Fi_Matrix_flip_1_s3 (A : Int) (C : Int) a2 a3 a4 (A : Int) (C : Int) (List.replicate (A * C) (some 0))) (List.replicate (A * C) (some 0), 0) = some (.inl (tabM A C K)) := e
  rw [i_newMatrix_eq hA hC, obind3_eq, e]; rfl
theorem i_made_2Fi_PartOfMatrix_1_mk {A C : Nat} (hA : A ≤ 12) (hC : C ≤ 12) (a2 a3 : Int) (a4 : List F) (a5 a6 : Int) {K : Nat → Nat → F} (hK : ∀ i k : Nat, i < A → k < C → i_PartOfMatrix_1 (i : Int) (k : Int) a2 a3 a4 a5 a6 = some (K i k)) : i_made_2Fi_PartOfMatrix_1 (A : Int) (C : Int) a2 a3 a4 a5 a6 = some ((A : Int), (C : Int), tabM A C K) := by
  have inner : ∀ (i : Nat) (L L0 : List F), i < A → Mat A C L → Mat A C L0 → loopM (i_made_2Fi_PartOfMatrix_1_s2 (C : Int) a2 a3 a4 a5 a6 (A : Int) (C : Int) L0 (i : Int)) (L, 0) = some (.inl (fillR K C i L)) := by
    intro i L L0 hi hL hL0
    exact (loop_run (step := i_made_2Fi_PartOfMatrix_1_s2 (C : Int) a2 a3 a4 a5 a6 (A : Int) (C : Int) L0 (i : Int)) (fun (k : Nat) (L : List F) => (L, (k : Int))) (fun k L => sm L C i k (K i k)) (fun L => L) (fun _ L => Mat A C L) (lo := 0) (n := C) (Nat.zero_le _) (s0 := L) hL
      (fun k L2 _ hk h3 => by
        refine ⟨?_, h3.set _ _ _⟩
        show i_made_2Fi_PartOfMatrix_1_b2 (C : Int) a2 a3 a4 a5 a6 (A : Int) (C : Int) L0 (i : Int) L2 (k : Int) = _
        unfold i_made_2Fi_PartOfMatrix_1_b2
        have l1 : decide ((sm L2 C i k (K i k)).length = L0.length) = true := by simp [h3.len, hL0.len]
        rw [dlt hk, bsel_true, hK i k hi hk, obind_eq, i_Matrix_set_02o_eq _ h3 hi hk, obind_eq, l1, need_true, wsucc (by omega)]
        rfl)
      (fun L2 _ => by
        show i_made_2Fi_PartOfMatrix_1_b2 (C : Int) a2 a3 a4 a5 a6 (A : Int) (C : Int) L0 (i : Int) L2 (C : Int) = _
        unfold i_made_2Fi_PartOfMatrix_1_b2
        rw [dnlt, bsel_false])).1
  have e := (loop_run (step := i_made_2Fi_PartOfMatrix_1_s3 (A : Int) (C : Int) a2 a3 a4 a5 a6 (A : Int) (C : Int) (List.replicate (A * C) (some 0))) (fun (i : Nat) (L : List F) => (L, (i : Int))) (fillR K C) (fun L => L) (fun _ L => Mat A C L) (lo := 0) (n := A) (Nat.zero_le _) (s0 := List.replicate (A * C) (some 0)) (zmat hA hC)
    (fun i L2 _ hi h3 => by
      refine ⟨?_, (fillR_spec h3 hi).1⟩
      show i_made_2Fi_PartOfMatrix_1_b3 (A : Int) (C : Int) a2 a3 a4 a5 a6 (A : Int) (C : Int) (List.replicate (A * C) (some 0)) L2 (i : Int) = _
      unfold i_made_2Fi_PartOfMatrix_1_b3
      rw [dlt hi, bsel_true, inner i L2 _ hi h3 (zmat hA hC), obind_eq, osum_inl]
      unfold i_made_2Fi_PartOfMatrix_1_k2
      rw [wsucc (by omega)]
      rfl)
    (fun L2 _ => by
      show i_made_2Fi_PartOfMatrix_1_b3 (A : Int) (C : Int) a2 a3 a4 a5 a6 (A : Int) (C : Int) (List.replicate (A * C) (some 0)) L2 (A : Int) = _
      unfold i_made_2Fi_PartOfMatrix_1_b3
      rw [dnlt, bsel_false])).1
  unfold i_made_2Fi_PartOfMatrix_1
  replace e : loopM (i_made_2Fi_PartOfMatrix_1_s3 (A : Int) (C : Int) a2 a3 a4 a5 a6 (A : Int) (C : Int) (List.replicate (A * C) (some 0))) (List.replicate (A * C) (some 0), 0) = some (.inl (tabM A C K)) := e
  rw [i_newMatrix_eq hA hC, obind3_eq, e]; rfl
theorem i_made_2Fi_weigh_1_mk {A C : Nat} (hA : A ≤ 12) (hC : C ≤ 12) (a2 : F) (a3 a4 : Int) (a5 : List F) (a6 : F) (a7 a8 : Int) (a9 : List F) {K : Nat → Nat → F} (hK : ∀ i k : Nat, i < A → k < C → i_weigh_1 (i : Int) (k : Int) a2 a3 a4 a5 a6 a7 a8 a9 = some (K i k)) : i_made_2Fi_weigh_1 (A : Int) (C : Int) a2 a3 a4 a5 a6 a7 a8 a9 = some ((A : Int), (C : Int), tabM A C K) := by
  have inner : ∀ (i : Nat) (L L0 : List F), i < A → Mat A C L → Mat A C L0 → loopM (i_made_2Fi_weigh_1_s2 (C : Int) a2 a3 a4 a5 a6 a7 a8 a9 (A : Int) (C : Int) L0 (i : Int)) (L, 0) = some (.inl (fillR K C i L)) := by
    intro i L L0 hi hL hL0
    exact (loop_run (step := i_made_2Fi_weigh_1_s2 (C : Int) a2 a3 a4 a5 a6 a7 a8 a9 (A : Int) (C : Int) L0 (i : Int)) (fun (k : Nat) (L : List F) => (L, (k : Int))) (fun k L => sm L C i k (K i k)) (fun L => L) (fun _ L => Mat A C L) (lo := 0) (n := C) (Nat.zero_le _) (s0 := L) hL
      (fun k L2 _ hk h3 => by
        refine ⟨?_, h3.set _ _ _⟩
        show i_made_2Fi_weigh_1_b2 (C : Int) a2 a3 a4 a5 a6 a7 a8 a9 (A : Int) (C : Int) L0 (i : Int) L2 (k : Int) = _
        unfold i_made_2Fi_weigh_1_b2
        have l1 : decide ((sm L2 C i k (K i k)).length = L0.length) = true := by simp [h3.len, hL0.len]
        rw [dlt hk, bsel_true, hK i k hi hk, obind_eq, i_Matrix_set_02o_eq _ h3 hi hk, obind_eq, l1, need_true, wsucc (by omega)]
        rfl)
      (fun L2 _ => by
        show i_made_2Fi_weigh_1_b2 (C : Int) a2 a3 a4 a5 a6 a7 a8 a9 (A : Int) (C : Int) L0 (i : Int) L2 (C : Int) = _
        unfold i_made_2Fi_weigh_1_b2
        rw [dnlt, bsel_false])).1
  have e := (loop_run (step := i_made_2Fi_weigh_1_s3 (A : Int) (C : Int) a2 a3 a4 a5 a6 a7 a8 a9 (A : Int) (C : Int) (List.replicate (A * C) (some 0))) (fun (i : Nat) (L : List F) => (L, (i : Int))) (fillR K C) (fun L => L) (fun _ L => Mat A C L) (lo := 0) (n := A) (Nat.zero_le _) (s0 := List.replicate (A * C) (some 0)) (zmat hA hC)
    (fun i L2 _ hi h3 => by
      refine ⟨?_, (fillR_spec h3 hi).1⟩
      show i_made_2Fi_weigh_1_b3 (A : Int) (C : Int) a2 a3 a4 a5 a6 a7 a8 a9 (A : Int) (C : Int) (List.replicate (A * C) (some 0)) L2 (i : Int) = _
      unfold i_made_2Fi_weigh_1_b3
      rw [dlt hi, bsel_true, inner i L2 _ hi h3 (zmat hA hC), obind_eq, osum_inl]
      unfold i_made_2Fi_weigh_1_k2
      rw [wsucc (by omega)]
      rfl)
    (fun L2 _ => by
      show i_made_2Fi_weigh_1_b3 (A : Int) (C : Int) a2 a3 a4 a5 a6 a7 a8 a9 (A : Int) (C : Int) (List.replicate (A * C) (some 0)) L2 (A : Int) = _
      unfold i_made_2Fi_weigh_1_b3
      rw [dnlt, bsel_false])).1
  unfold i_made_2Fi_weigh_1
  replace e : loopM (i_made_2Fi_weigh_1_s3 (A : Int) (C : Int) a2 a3 a4 a5 a6 a7 a8 a9 (A : Int) (C : Int) (List.replicate (A * C) (some 0))) (List.replicate (A * C) (some 0), 0) = some (.inl (tabM A C K)) := e
  rw [i_newMatrix_eq hA hC, obind3_eq, e]; rfl
theorem product_comm (x y : Ieee.Datum) : x.product y = y.product x := by
  cases x <;> cases y <;> simp [Ieee.Datum.product, Bool.xor_comm, Nat.mul_comm, Int.add_comm]
theorem fmul_comm (k : FloatKind) (x y : F) : fop .mul k x y = fop .mul k y x := by
  cases x with
  | none => cases y <;> rfl
  | some a =>
    cases y with
    | none => rfl
    | some b =>
      show k.format.mul a b = k.format.mul b a
      unfold Ieee.Format.mul
      rw [product_comm]
theorem dotN_comm (f g : Nat → F) (n : Nat) : dotN f g n = dotN g f n :=
  run_congr (fun _ _ => True) n 0 _ trivial fun i y _ _ _ => ⟨by unfold dotE; rw [fmul_comm], trivial⟩
theorem sub_getD {l : List F} {v to j : Nat} (hj : v + j < to) : ((l.take to).drop v).getD j none = l.getD (v + j) none := by
  simp [List.getD, List.getElem?_drop, List.getElem?_take, hj]
theorem block_loop {n sz : Nat} {l m : List F} (hn : n ≤ 12) (h1 : 1 ≤ sz) (h2 : sz ≤ 12) (hl : l.length = n) (hm : m.length = n) (gl : ∀ j, j < n → Qd (l.getD j none)) (gm' : ∀ j, j < n → Qd (m.getD j none)) :
    ∀ (f v : Nat) (y : F), n ≤ v + f → v ≤ 24 → Dy .f32 4 (isum (fun j => qv (l.getD j none) * qv (m.getD j none)) (min v n)) y →
    ∃ z, loopM (i_MulBlocks_1_s1 (n : Int) (sz : Int) l m) (y, (v : Int)) = some (.inl z) ∧ Dy .f32 4 (isum (fun j => qv (l.getD j none) * qv (m.getD j none)) n) z
  | f, v, y, hf, hv, hy => by
    by_cases hlt : v < n
    · match f, hf with
      | 0, hf => omega
      | f + 1, hf =>
        have hd : (2 : Nat) ^ dgn .f32 = 16777216 := by decide
        generalize hto : min n (v + sz) = to
        have hto1 : v ≤ to := by omega
        have hto2 : to ≤ n := by omega
        have im : imin (n : Int) ((v : Int) + (sz : Int)) = (to : Int) := by
          unfold imin
          split <;> omega
        have sl : sub? l (v : Int) (to : Int) = some ((l.take to).drop v) := sub?_n hto1 (by omega)
        have smm : sub? m (v : Int) (to : Int) = some ((m.take to).drop v) := sub?_n hto1 (by omega)
        have ll : ((l.take to).drop v).length = to - v := by rw [List.length_drop, List.length_take]; omega
        have lm : ((m.take to).drop v).length = to - v := by rw [List.length_drop, List.length_take]; omega
        have dt : i_dot ((l.take to).drop v) ((m.take to).drop v) = some (dotN (fun i => ((l.take to).drop v).getD i none) (fun i => ((m.take to).drop v).getD i none) (to - v)) := by
          rw [i_dot_eq (by omega) (by omega), ll]
        have dd : Dy .f32 4 (isum (fun j => qv (l.getD (v + j) none) * qv (m.getD (v + j) none)) (to - v)) (dotN (fun i => ((l.take to).drop v).getD i none) (fun i => ((m.take to).drop v).getD i none) (to - v)) :=
          dotN_dy (s := 2) (t := 2) (B := 256) (by decide) (to - v) (fun j hj => by
            rw [sub_getD (by omega), sub_getD (by omega)]
            exact ⟨qd_dy (gl _ (by omega)), qd_dy (gm' _ (by omega)), mul_bound (qv_le _) (qv_le _)⟩) (by omega)
        rw [Nat.min_eq_left (by omega)] at hy
        have tot : isum (fun j => qv (l.getD j none) * qv (m.getD j none)) v + isum (fun j => qv (l.getD (v + j) none) * qv (m.getD (v + j) none)) (to - v) = isum (fun j => qv (l.getD j none) * qv (m.getD j none)) (min (v + sz) n) := by
          rw [← isum_add, show v + (to - v) = min (v + sz) n from by omega]
        have hb := isum_le (f := fun j => qv (l.getD j none) * qv (m.getD j none)) (n := min (v + sz) n) (B := 256) fun j hj => mul_bound (qv_le _) (qv_le _)
        have ad := hy.add dd (by rw [hd, tot]; omega)
        rw [tot] at ad
        obtain ⟨z, k1, k2⟩ := block_loop hn h1 h2 hl hm gl gm' f (v + sz) _ (by omega) (by omega) ad
        refine ⟨z, ?_, k2⟩
        have st : i_MulBlocks_1_s1 (n : Int) (sz : Int) l m (y, (v : Int)) = some (.next (fop .add .f32 y (dotN (fun i => ((l.take to).drop v).getD i none) (fun i => ((m.take to).drop v).getD i none) (to - v)), ((v + sz : Nat) : Int))) := by
          show i_MulBlocks_1_b1 (n : Int) (sz : Int) l m y (v : Int) = _
          unfold i_MulBlocks_1_b1
          rw [dlt hlt, bsel_true]
          simp only [olet_eq]
          rw [wi64 (by omega) (by omega), im, sl, obind_eq, smm, obind_eq, dt, obind_eq]; rfl
        rw [loopM_next st]; exact k1
    · refine ⟨y, ?_, by rw [Nat.min_eq_right (by omega)] at hy; exact hy⟩
      rw [loopM_out (e := y)]
      show i_MulBlocks_1_b1 (n : Int) (sz : Int) l m y (v : Int) = _
      unfold i_MulBlocks_1_b1
      rw [decide_eq_false (by omega), bsel_false]
theorem block_one {A B C sz i k : Nat} {L M : List F} (hL : QM A B L) (hM : QM B C M) (hi : i < A) (hk : k < C) (h1 : 1 ≤ sz) (h2 : sz ≤ 12) :
    ∃ z, i_MulBlocks_1 (i : Int) (k : Int) (A : Int) (B : Int) L (B : Int) (C : Int) M (sz : Int) = some z ∧ Dy .f32 4 (isum (fun j => qv (gm none L B i j) * qv (gm none M C j k)) B) z := by
  obtain ⟨z, k1, k2⟩ := block_loop (n := B) (sz := sz) (l := rowP B i L) (m := colP B C k M) hL.m.C1 h1 h2 (rowP_len hL.m hi) colP_len
    (fun j hj => by rw [rowP_at hL.m hi hj]; exact hL.at hi hj) (fun j hj => by rw [colP_at hj]; exact hM.at hj hk) B 0 (some 0) (by omega) (by omega) (Dy.zero .f32 (by decide))
  refine ⟨z, ?_, ?_⟩
  · unfold i_MulBlocks_1
    have k1 : loopM (i_MulBlocks_1_s1 (B : Int) (sz : Int) (rowP B i L) (colP B C k M)) (some 0, 0) = some (.inl z) := k1
    rw [i_Matrix_row_eq _ hL.m hi, obind_eq, i_Matrix_column_eq hM.m hk, obind_eq, k1]; rfl
  · rw [isum_congr fun j hj => by rw [rowP_at hL.m hi hj, colP_at hj]] at k2
    exact k2
theorem areFactors_q {A B C : Nat} {L M : List F} (hL : QM A B L) (hM : QM B C M) (hA : 0 < A) (hB : 0 < B) (hC : 0 < C) : i_areFactors (A : Int) (B : Int) L (B : Int) (C : Int) M = some true := by
  unfold i_areFactors
  rw [i_ValidMatrix_eq _ _ hL.oks hL.m.le, mat_valid hL.m hA hB, hL.fin, i_ValidMatrix_eq _ _ hM.oks hM.m.le, mat_valid hM.m hB hC, hM.fin]
  simp [obind_eq, bsel_true]
theorem valid_q {A C : Nat} {L : List F} (m : Mat A C L) (g : FOks L) (hf : L.all fin32 = true) (hA : 0 < A) (hC : 0 < C) : i_Matrix_valid_02o (A : Int) (C : Int) L = some (.inl ((A : Int), (C : Int), true, L)) := by
  unfold i_Matrix_valid_02o
  rw [i_ValidMatrix_eq _ _ g m.le, mat_valid m hA hC, hf, obind_eq, bsel_true]
theorem blocks_q {A B C sz : Nat} {L M : List F} (hL : QM A B L) (hM : QM B C M) (hA : 0 < A) (hB : 0 < B) (hC : 0 < C) (h1 : 1 ≤ sz) (h2 : sz ≤ 12) :
    ∃ K : Nat → Nat → F, (∀ i k, i < A → k < C → Dy .f32 4 (isum (fun j => qv (gm none L B i j) * qv (gm none M C j k)) B) (K i k)) ∧ i_MulBlocks (A : Int) (B : Int) L (B : Int) (C : Int) M (sz : Int) = some ((A : Int), (C : Int), true, tabM A C K) := by
  let K : Nat → Nat → F := fun i k => (i_MulBlocks_1 (i : Int) (k : Int) (A : Int) (B : Int) L (B : Int) (C : Int) M (sz : Int)).getD none
  have hK : ∀ i k : Nat, i < A → k < C → i_MulBlocks_1 (i : Int) (k : Int) (A : Int) (B : Int) L (B : Int) (C : Int) M (sz : Int) = some (K i k) ∧ Dy .f32 4 (isum (fun j => qv (gm none L B i j) * qv (gm none M C j k)) B) (K i k) := by
    intro i k hi hk
    obtain ⟨z, e, d⟩ := block_one hL hM hi hk h1 h2
    have : K i k = z := by show (i_MulBlocks_1 _ _ _ _ _ _ _ _ _).getD none = _; rw [e]; rfl
    rw [this]; exact ⟨e, d⟩
  refine ⟨K, fun i k hi hk => (hK i k hi hk).2, ?_⟩
  have hA1 := hL.m.A1
  have hC1 := hM.m.C1
  have hfin : (tabM A C K).all fin32 = true := tab_fin hA1 hC1 fun i k hi hk => (hK i k hi hk).2.fin
  have hoks : FOks (tabM A C K) := oks_of_gm (tabM_mat hA1 hC1) fun i k hi hk => by rw [tabM_gm hA1 hC1 hi hk]; exact (hK i k hi hk).2.fok
  unfold i_MulBlocks
  rw [areFactors_q hL hM hA hB hC, obind_eq, bsel_true, i_isSide_eq, obind_eq, show side (sz : Int) = true from by unfold side; rw [decide_eq_true (by omega), decide_eq_true (by omega)]; rfl, bsel_true, i_made_2Fi_MulBlocks_1_mk hA1 hC1 _ _ _ _ _ _ _ (fun i k hi hk => (hK i k hi hk).1), obind3_eq, valid_q (tabM_mat hA1 hC1) hoks hfin hA hC, obind_eq]
  simp [osum, obind4_eq, need_true]
theorem flip_q {A C : Nat} {L : List F} (m : Mat A C L) (g : FOks L) (hf : L.all fin32 = true) (hA : 0 < A) (hC : 0 < C) : i_FlipMatrix (A : Int) (C : Int) L = some ((C : Int), (A : Int), true, tabM C A (fun i k => gm none L C k i)) := by
  unfold i_FlipMatrix i_Matrix_flip
  rw [i_ValidMatrix_eq _ _ g m.le, mat_valid m hA hC, hf, obind_eq, bsel_true, i_made_2Fi_Matrix_flip_1_mk m.C1 m.A1 _ _ _ (K := fun i k => gm none L C k i) (fun i k hi hk => by
    unfold i_Matrix_flip_1
    rw [i_Matrix_at_eq _ m hk hi, obind_eq]), obind3_eq, obind3_eq]
theorem flip_QM {A C : Nat} {L : List F} (h : QM A C L) : QM C A (tabM C A (fun i k => gm none L C k i)) := by
  refine ⟨tabM_mat h.m.C1 h.m.A1, fun x hx => ?_⟩
  obtain ⟨i, k, hi, hk, rfl⟩ := mem_gm (tabM_mat h.m.C1 h.m.A1) hx
  rw [tabM_gm h.m.C1 h.m.A1 hi hk]; exact h.at hk hi
theorem same_refl {x y : Int} {L : List F} (g : FOks L) (h : L.length ≤ 1048576) : i_SameMatrix x y L x y L = some true := by
  unfold i_SameMatrix i_sameNumbers
  rw [decide_eq_true rfl, bsel_true, decide_eq_true rfl, bsel_true, x_slices_EqualFunc_float32_float32_float32_float32_2Fi_SameNumber_eq g g h, decide_eq_true rfl, obind_eq, obind_eq]
theorem unit_dy (i k : Nat) : Dy .f32 0 (if i = k then 1 else 0) (unitF i k) := by
  unfold unitF
  by_cases h : i = k
  · rw [if_pos h, decide_eq_true h]
    have e : fint .f32 1 = some 1065353216 := by decide +kernel
    show Dy .f32 0 1 (some 1065353216)
    rw [← e]; exact Dy.int (by decide)
  · rw [if_neg h, decide_eq_false h]; exact Dy.zero .f32 (by decide)
theorem unitM_q {n : Nat} (h1 : 1 ≤ n) (h2 : n ≤ 12) : i_UnitMatrix (n : Int) = some ((n : Int), (n : Int), true, tabM n n unitF) := by
  unfold i_UnitMatrix
  rw [i_isSide_eq, obind_eq, show side (n : Int) = true from by unfold side; rw [decide_eq_true (by omega), decide_eq_true (by omega)]; rfl, bsel_true, i_unit_eq h2, obind3_eq]
theorem mul_unit {A B : Nat} {L : List F} (hL : QM A B L) (hA : 0 < A) (hB : 0 < B) :
    i_MulMatrices (A : Int) (B : Int) L (B : Int) (B : Int) (tabM B B unitF) = some ((A : Int), (B : Int), true, tabM A B (mulE B B L (tabM B B unitF))) ∧ ∀ i k, i < A → k < B → Dy .f32 2 (qv (gm none L B i k)) (mulE B B L (tabM B B unitF) i k) := by
  have hB1 := hL.m.C1
  have d : ∀ i k, i < A → k < B → Dy .f32 2 (qv (gm none L B i k)) (mulE B B L (tabM B B unitF) i k) := by
    intro i k hi hk
    have := dotN_dy (f := fun j => gm none L B i j) (g := fun j => gm none (tabM B B unitF) B j k) (p := fun j => qv (gm none L B i j)) (q := fun j => if j = k then 1 else 0) (s := 2) (t := 0) (B := 16) (by decide) B (fun j hj => by
      refine ⟨qd_dy (hL.at hi hj), by rw [tabM_gm hB1 hB1 hj hk]; exact unit_dy j k, ?_⟩
      have := qv_le (gm none L B i j)
      by_cases e : j = k
      · rw [if_pos e]; omega
      · rw [if_neg e]; omega) (by omega)
    rw [isum_delta (fun j => qv (gm none L B i j)) k B, if_pos hk] at this
    exact this
  refine ⟨?_, d⟩
  have mU : Mat B B (tabM B B unitF) := tabM_mat hB1 hB1
  have gU : FOks (tabM B B unitF) := tabM_oks hB1 hB1 unitF_ok
  rw [i_MulMatrices_eq hL.m mU hL.oks gU hA hB hB]
  unfold mulQ
  rw [hL.fin, tab_fin hB1 hB1 (fun i k _ _ => (unit_dy i k).fin), tab_fin hL.m.A1 hB1 fun i k hi hk => (d i k hi hk).fin]; rfl
theorem gap_zero {n : Int} {x y : F} (hx : Dy .f32 4 n x) (hy : Dy .f32 4 n y) : ∃ z, w_r8Gap (fwiden x) (fwiden y) = some z ∧ flt .f64 (some 4562254508917369340) z = false := by
  have d1 := hx.widen.sub hy.widen (by rw [Int.sub_self]; decide)
  have d2 := hy.widen.sub hx.widen (by rw [Int.sub_self]; decide)
  rw [Int.sub_self] at d1 d2
  unfold w_r8Gap
  simp only [olet_eq]
  rcases d1.zero_is with e1 | e1 <;> rcases d2.zero_is with e2 | e2 <;> rw [e1, e2] <;> exact ⟨_, rfl, by decide +kernel⟩
theorem gm_flat {A C v : Nat} {L : List F} (hC : 0 < C) (h : v < A * C) : L.getD v none = gm none L C (v / C) (v % C) ∧ v / C < A ∧ v % C < C := by
  refine ⟨?_, (Nat.div_lt_iff_lt_mul hC).2 h, Nat.mod_lt _ hC⟩
  unfold gm
  rw [show v / C * C + v % C = v from by rw [Nat.mul_comm]; exact Nat.div_add_mod v C]
theorem put_self {A C r c R K : Nat} {a : List F} (hA : A ≤ 12) (hC : C ≤ 12) (ha : Mat A C a) (hr : R + r = A) (hc : K + c = C) (c0 : 0 < c) :
    ∀ v, v ≤ r * c → putG a (tabM r c (fun i k => gm none a C (R + i) (K + k))) R C K c v = a
  | 0, _ => rfl
  | v + 1, hv => by
    have ih := put_self hA hC ha hr hc c0 v (by omega)
    have hi : v / c < r := (Nat.div_lt_iff_lt_mul c0).2 (by omega)
    have hk : v % c < c := Nat.mod_lt _ c0
    have e := (gm_flat (L := tabM r c (fun i k => gm none a C (R + i) (K + k))) c0 (show v < r * c by omega)).1
    rw [tabM_gm (by omega) (by omega) hi hk] at e
    unfold putG
    rw [ih, e]
    have hlt := ha.lt (i := R + v / c) (k := K + v % c) (by omega) (by omega)
    have e2 : (R + v / c) * C + K + v % c = (R + v / c) * C + (K + v % c) := by omega
    rw [e2]
    unfold gm
    apply List.ext_getElem?
    intro q
    by_cases hq : (R + v / c) * C + (K + v % c) = q
    · subst hq
      rw [List.getElem?_set_self hlt, getD_of_lt none hlt]
    · rw [List.getElem?_set_ne hq]
theorem part_put {A C R K : Nat} {a : List F} (h : QM A C a) (hR : R < A) (hK : K < C) :
    i_PartOfMatrix (A : Int) (C : Int) a (R : Int) (K : Int) ((A - R : Nat) : Int) ((C - K : Nat) : Int) = some (((A - R : Nat) : Int), ((C - K : Nat) : Int), true, tabM (A - R) (C - K) (fun i k => gm none a C (R + i) (K + k))) ∧
    i_PutMatrix (A : Int) (C : Int) a ((A - R : Nat) : Int) ((C - K : Nat) : Int) (tabM (A - R) (C - K) (fun i k => gm none a C (R + i) (K + k))) (R : Int) (K : Int) = some ((A : Int), (C : Int), true, a) := by
  have hA1 := h.m.A1
  have hC1 := h.m.C1
  have lies : i_Matrix_liesIn (A : Int) (C : Int) a (R : Int) (K : Int) ((A - R : Nat) : Int) ((C - K : Nat) : Int) = some true := by
    rw [i_Matrix_liesIn_eq]
    unfold liesM side
    rw [wi64 (by omega) (by omega), wi64 (by omega) (by omega)]
    rw [decide_eq_true (by omega), decide_eq_true (by omega), decide_eq_true (by omega), decide_eq_true (by omega), decide_eq_true (by omega), decide_eq_true (by omega), decide_eq_true (by omega), decide_eq_true (by omega)]; rfl
  have va : i_ValidMatrix (A : Int) (C : Int) a = some true := by rw [i_ValidMatrix_eq _ _ h.oks h.m.le, mat_valid h.m (by omega) (by omega), h.fin]
  have mp : Mat (A - R) (C - K) (tabM (A - R) (C - K) (fun i k => gm none a C (R + i) (K + k))) := tabM_mat (by omega) (by omega)
  have qp : QM (A - R) (C - K) (tabM (A - R) (C - K) (fun i k => gm none a C (R + i) (K + k))) := ⟨mp, fun x hx => by
    obtain ⟨i, k, hi, hk, rfl⟩ := mem_gm mp hx
    rw [tabM_gm (by omega) (by omega) hi hk]; exact h.at (by omega) (by omega)⟩
  refine ⟨?_, ?_⟩
  · unfold i_PartOfMatrix
    rw [va, obind_eq, bsel_true, lies, obind_eq, bsel_true, i_made_2Fi_PartOfMatrix_1_mk (by omega) (by omega) _ _ _ _ _ (K := fun i k => gm none a C (R + i) (K + k)) (fun i k hi hk => by
      unfold i_PartOfMatrix_1
      simp only [olet_eq]
      rw [wi64 (by omega) (by omega), wi64 (by omega) (by omega), show (R : Int) + (i : Int) = ((R + i : Nat) : Int) from by omega, show (K : Int) + (k : Int) = ((K + k : Nat) : Int) from by omega, i_Matrix_at_eq _ h.m (by omega) (by omega), obind_eq]), obind3_eq]
  · unfold i_PutMatrix
    have hok : PutOk A C (A - R) (C - K) R K a (tabM (A - R) (C - K) (fun i k => gm none a C (R + i) (K + k))) := ⟨hA1, hC1, by omega, by omega, by omega, h.m.len, mp.len, by omega, by omega⟩
    rw [va, obind_eq, bsel_true, i_ValidMatrix_eq _ _ qp.oks qp.m.le, mat_valid qp.m (by omega) (by omega), qp.fin, obind_eq, bsel_true, lies, obind_eq, bsel_true, i_Matrix_clone_eq _ _ h.m.le, obind3_eq, i_PutMatrix_loop hok _ a rfl, put_self hA1 hC1 h.m (by omega) (by omega) (by omega) _ (Nat.le_refl _)]
    rfl
theorem weigh_self {A C : Nat} {a : List F} (h : QM A C a) (hA : 0 < A) (hC : 0 < C) :
    ∃ K : Nat → Nat → F, (∀ i k, i < A → k < C → Dy .f32 2 (qv (gm none a C i k)) (K i k)) ∧ i_WeighMatrices (A : Int) (C : Int) a (A : Int) (C : Int) a (some 1073741824) (some 3212836864) = some ((A : Int), (C : Int), true, tabM A C K) := by
  have hA1 := h.m.A1
  have hC1 := h.m.C1
  have two : Dy .f32 0 2 (some 1073741824) := by
    have e : fint .f32 2 = some 1073741824 := by decide +kernel
    rw [← e]; exact Dy.int (by decide)
  have neg : Dy .f32 0 (-1) (some 3212836864) := by
    have e : fint .f32 (-1) = some 3212836864 := by decide +kernel
    rw [← e]; exact Dy.int (by decide)
  have hd : (2 : Nat) ^ dgn .f32 = 16777216 := by decide
  let K : Nat → Nat → F := fun i k => fop .add .f32 (fop .mul .f32 (some 1073741824) (gm none a C i k)) (fop .mul .f32 (some 3212836864) (gm none a C i k))
  have hK : ∀ i k, i < A → k < C → Dy .f32 2 (qv (gm none a C i k)) (K i k) := by
    intro i k hi hk
    have q := qd_dy (h.at hi hk)
    have hq := qv_le (gm none a C i k)
    have := (two.mul q (by decide) (by omega)).add (neg.mul q (by decide) (by omega)) (by omega)
    rw [show 2 * qv (gm none a C i k) + -1 * qv (gm none a C i k) = qv (gm none a C i k) from by omega] at this
    exact this
  refine ⟨K, hK, ?_⟩
  have va : i_ValidMatrix (A : Int) (C : Int) a = some true := by rw [i_ValidMatrix_eq _ _ h.oks h.m.le, mat_valid h.m hA hC, h.fin]
  have ar : i_areFinite ([some 1073741824, some 3212836864] : List F) = some true := by
    rw [i_areFinite_eq (by
      intro c hc
      rcases List.mem_cons.1 hc with rfl | hc
      · exact two.fok
      · rcases List.mem_cons.1 hc with rfl | hc
        · exact neg.fok
        · simp at hc) (by simp)]
    simp [two.fin, neg.fin]
  have hfin : (tabM A C K).all fin32 = true := tab_fin hA1 hC1 fun i k hi hk => (hK i k hi hk).fin
  have hoks : FOks (tabM A C K) := oks_of_gm (tabM_mat hA1 hC1) fun i k hi hk => by rw [tabM_gm hA1 hC1 hi hk]; exact (hK i k hi hk).fok
  unfold i_WeighMatrices i_weigh
  rw [va, obind_eq, bsel_true, obind_eq, bsel_true, decide_eq_true rfl, Bool.not_true, bsel_false, decide_eq_true rfl, Bool.not_true, bsel_false, ar, obind_eq, bsel_true, i_made_2Fi_weigh_1_mk hA1 hC1 _ _ _ _ _ _ _ _ (K := K) (fun i k hi hk => by
    unfold i_weigh_1
    rw [i_Matrix_at_eq _ h.m hi hk, obind_eq, i_mul_eq, obind_eq, obind_eq, i_mul_eq, obind_eq, olet_eq]), obind3_eq, obind3_eq, valid_q (tabM_mat hA1 hC1) hoks hfin hA hC, obind_eq]
  simp [osum, obind4_eq, need_true]
theorem times_q {A B C : Nat} {L M : List F} (hL : QM A B L) (hM : QM B C M) (hA : 0 < A) (hB : 0 < B) (hC : 0 < C) :
    i_TimesVector (A : Int) (B : Int) L (colP B C 0 M) = some (true, colP A C 0 (tabM A C (mulE B C L M))) := by
  have hA1 := hL.m.A1
  have hB1 := hL.m.C1
  have hC1 := hM.m.C1
  have gc : FOks (colP B C 0 M) := colP_oks hM.oks
  have fc : (colP B C 0 M).all fin32 = true := List.all_eq_true.2 fun x hx => by
    obtain ⟨i, hi, rfl⟩ := List.mem_map.1 hx
    exact (qd_dy (hM.at (List.mem_range.1 hi) hC)).fin
  have hv : i_IsVector (colP B C 0 M) = some true := by
    rw [i_IsVector_eq gc (by rw [colP_len]; omega)]
    unfold vecB
    rw [colP_len, decide_eq_true (by omega), decide_eq_true (by omega), fc]; rfl
  have e := (loop_run (step := i_Matrix_timesVector_s1 (A : Int) (B : Int) L (colP B C 0 M)) (fun (i : Nat) (l : List F) => (l, (i : Int))) (fun i l => l ++ [mulE B C L M i 0]) (fun l => l) (fun i l => l.length = i) (lo := 0) (n := A) (Nat.zero_le _) (s0 := []) rfl
    (fun i l _ hi h3 => by
      refine ⟨?_, by simp [h3]⟩
      show i_Matrix_timesVector_b1 _ _ _ _ _ _ = _
      unfold i_Matrix_timesVector_b1
      have dt : i_dot (rowP B i L) (colP B C 0 M) = some (mulE B C L M i 0) := by
        have := i_product_1_eq (A : Int) hL.m hM.m hi hC
        unfold i_product_1 at this
        rw [i_Matrix_row_eq _ hL.m hi, obind_eq, show ((0 : Nat) : Int) = ((0 : Nat) : Int) from rfl, i_Matrix_column_eq hM.m hC, obind_eq] at this
        cases hd : i_dot (rowP B i L) (colP B C 0 M) with
        | none => rw [hd] at this; cases this
        | some z => rw [hd, obind_eq] at this; exact this
      have ap : apok 4 l.length 1 = true := by simp [apok]; omega
      rw [dlt hi, bsel_true, i_Matrix_row_eq _ hL.m hi, obind_eq, dt, obind_eq, ap, need_true, wsucc (by omega)]
      rfl)
    (fun l _ => by
      show i_Matrix_timesVector_b1 _ _ _ _ _ _ = _
      unfold i_Matrix_timesVector_b1
      rw [dnlt, bsel_false])).1
  rw [Nat.sub_zero, run_map] at e
  have e : loopM (i_Matrix_timesVector_s1 (A : Int) (B : Int) L (colP B C 0 M)) ([], 0) = some (.inl ((List.range A).map fun i => mulE B C L M i 0)) := e
  have el : ((List.range A).map fun i => mulE B C L M i 0) = colP A C 0 (tabM A C (mulE B C L M)) := by
    unfold colP
    exact List.map_congr_left fun i hi => (tabM_gm hA1 hC1 (List.mem_range.1 hi) hC).symm
  rw [el] at e
  have fr : (colP A C 0 (tabM A C (mulE B C L M))).all fin32 = true := List.all_eq_true.2 fun x hx => by
    obtain ⟨i, hi, rfl⟩ := List.mem_map.1 hx
    rw [tabM_gm hA1 hC1 (List.mem_range.1 hi) hC]; exact (mulE_dy hL hM (List.mem_range.1 hi) hC).fin
  have gr : FOks (colP A C 0 (tabM A C (mulE B C L M))) := colP_oks (tabM_oks hA1 hC1 (mulE_ok B C L M))
  unfold i_TimesVector i_length_float32 i_Matrix_timesVector i_allFinite_0o
  rw [i_ValidMatrix_eq _ _ hL.oks hL.m.le, mat_valid hL.m hA hB, hL.fin, obind_eq, bsel_true, hv, obind_eq, bsel_true, obind_eq, colP_len, decide_eq_true rfl, Bool.not_true, bsel_false, e]
  simp only [obind_eq, osum]
  unfold i_Matrix_timesVector_k1
  rw [obind_eq, i_areFinite_eq gr (by rw [colP_len]; omega), fr, obind_eq, bsel_true, obind_eq]
  simp [osum, obind2_eq, need_true]
theorem loop_all {n : Nat} {step : Int → Option (LR Int Unit Bool)} (hn : n ≤ 1000000) (hs : ∀ i : Nat, i < n → step (i : Int) = some (.next ((i + 1 : Nat) : Int))) (he : step (n : Int) = some (.out ())) : loopM step 0 = some (.inl ()) :=
  (loop_run (step := step) (fun (i : Nat) (_ : Unit) => (i : Int)) (fun _ u => u) (fun _ => ()) (fun _ _ => True) (lo := 0) (n := n) (Nat.zero_le _) (s0 := ()) trivial (fun i _ _ hi _ => ⟨hs i hi, trivial⟩) (fun _ _ => he)).1
theorem mat_end {A B : Nat} {a : List Int} {L : List F} (ha : Byt a) (hL : QM A B L) (hA : 0 < A) (hB : 0 < B) : w_FnMatrices_k12 a (A : Int) (B : Int) L = some true := by
  have hA1 := hL.m.A1
  have hB1 := hL.m.C1
  obtain ⟨R, hR, eR⟩ := r8at ha (k := 43) (n := A) hA
  obtain ⟨K, hK, eK⟩ := r8at ha (k := 44) (n := B) hB
  have eR : w_r8At a 43 (A : Int) = some (R : Int) := eR
  have eK : w_r8At a 44 (B : Int) = some (K : Int) := eK
  obtain ⟨p1, p2⟩ := part_put hL hR hK
  obtain ⟨W, hW, eW⟩ := weigh_self hL hA hB
  have h0 : 0 < A * B := Nat.mul_pos hA hB
  obtain ⟨f1, i1, i2⟩ := gm_flat (L := tabM A B W) hB h0
  obtain ⟨f2, _, _⟩ := gm_flat (L := L) hB h0
  have l1 : (tabM A B W).length = A * B := (tabM_mat hA1 hB1).len
  have l2 := hL.m.len
  unfold w_FnMatrices_k12
  rw [eR, obind_eq, eK, obind_eq]
  simp only [olet_eq]
  rw [wi64 (by omega) (by omega), wi64 (by omega) (by omega), show (A : Int) - (R : Int) = ((A - R : Nat) : Int) from by omega, show (B : Int) - (K : Int) = ((B - K : Nat) : Int) from by omega, p1, obind4_eq, p2, obind4_eq, eW, obind4_eq, bsel_true, bsel_true, bsel_true, same_refl hL.oks hL.m.le, obind_eq, bsel_true, l1, l2, decide_eq_true rfl, bsel_true]
  have a1 : at? (tabM A B W) 0 = some ((tabM A B W).getD 0 none) := at?_n (i := 0) none (by omega)
  have a2 : at? L 0 = some (L.getD 0 none) := at?_n (i := 0) none (by omega)
  rw [a1, obind_eq, a2, obind_eq, f1, f2, tabM_gm hA1 hB1 i1 i2]
  have d1 := hW _ _ i1 i2
  have d2 := qd_dy (hL.at i1 i2)
  rw [d1.feq d2, decide_eq_true rfl]
  rfl
theorem w_FnMatrices_true (a0 a1 : List Int) (t0 : Small a0) (t1 : Small a1) (g0 : ∀ z ∈ a0, (Lit.int .u8 z).wf = true) (g1 : ∀ z ∈ a1, (Lit.int .u8 z).wf = true) : w_FnMatrices a0 a1 = some true := by
  have b0 := byt_of g0
  have b1 := byt_of g1
  unfold w_FnMatrices
  cases hlong : w_r8Long a0 a1 with
  | none =>
    unfold w_r8Long at hlong
    cases hd : decide (48 < (a0.length : Int)) <;> rw [hd] at hlong <;> cases hlong
  | some r =>
    rw [obind_eq]
    cases r with
    | true => rw [bsel_true]
    | false =>
      rw [bsel_false]
      obtain ⟨A, B, L, A1, A5, B1, B5, hL, e0⟩ := r8matrix b0
      obtain ⟨v, hv, ev⟩ := r8at b1 (k := 40) (n := 5) (by decide)
      have ev : w_r8At a1 40 5 = some (v : Int) := ev
      rw [e0, obind3_eq, ev, obind_eq, olet_eq, wi64 (by omega) (by omega), show (1 : Int) + (v : Int) = ((1 + v : Nat) : Int) from by omega]
      generalize hC : 1 + v = C
      have C1 : 1 ≤ C := by omega
      have C5 : C ≤ 5 := by omega
      obtain ⟨M, hM, e1⟩ := r8sides b1 (R := B) (C := C) (by omega) (by omega)
      have hA1 := hL.m.A1
      have hC1 := hM.m.C1
      have hB1 := hL.m.C1
      have mm := mul_quart hL hM (by omega) (by omega) (by omega)
      obtain ⟨K1, hK1, eb1⟩ := blocks_q (sz := 12) hL hM (by omega) (by omega) (by omega) (by decide) (by decide)
      have eb1 : i_MulBlocks (A : Int) (B : Int) L (B : Int) (C : Int) M 12 = _ := eb1
      obtain ⟨v2, hv2, ev2⟩ := r8at b1 (k := 41) (n := 3) (by decide)
      have ev2 : w_r8At a1 41 3 = some (v2 : Int) := ev2
      obtain ⟨K2, hK2, eb2⟩ := blocks_q (sz := 1 + v2) hL hM (by omega) (by omega) (by omega) (by omega) (by omega)
      obtain ⟨v3, hv3, ev3⟩ := r8at b1 (k := 42) (n := 8) (by decide)
      have ev3 : w_r8At a1 42 8 = some (v3 : Int) := ev3
      rw [e1, obind3_eq, mm, obind4_eq, eb1, obind4_eq, ev2, obind_eq, olet_eq, wi64 (by omega) (by omega), show (1 : Int) + (v2 : Int) = ((1 + v2 : Nat) : Int) from by omega, eb2, obind4_eq, ev3, obind_eq, olet_eq, wi64 (by omega) (by omega)]
      have sh : i_MulShared (A : Int) (B : Int) L (B : Int) (C : Int) M (1 + (v3 : Int)) = some ((A : Int), (C : Int), true, tabM A C (mulE B C L M)) := by
        unfold i_MulShared
        rw [i_inRange_eq, decide_eq_true (by omega), decide_eq_true (by omega), obind_eq]
        show bsel true _ _ = _
        rw [bsel_true, mm, obind4_eq]
      have gP : FOks (tabM A C (mulE B C L M)) := tabM_oks hA1 hC1 (mulE_ok B C L M)
      have fP : (tabM A C (mulE B C L M)).all fin32 = true := tab_fin hA1 hC1 fun i k hi hk => (mulE_dy hL hM hi hk).fin
      have mP : Mat A C (tabM A C (mulE B C L M)) := tabM_mat hA1 hC1
      have fl := flip_q hL.m hL.oks hL.fin (by omega) (by omega)
      have fm := flip_q hM.m hM.oks hM.fin (by omega) (by omega)
      have qX := flip_QM hL
      have qY := flip_QM hM
      have bk := mul_quart qY qX (by omega) (by omega) (by omega)
      have fp := flip_q mP gP fP (by omega) (by omega)
      have ebk : tabM C A (mulE B A (tabM C B (fun i k => gm none M C k i)) (tabM B A (fun i k => gm none L B k i))) = tabM C A (fun i k => gm none (tabM A C (mulE B C L M)) C k i) := by
        refine mat_ext (tabM_mat hC1 hA1) (tabM_mat hC1 hA1) fun i k hi hk => ?_
        rw [tabM_gm hC1 hA1 hi hk, tabM_gm hC1 hA1 hi hk, tabM_gm hA1 hC1 hk hi]
        unfold mulE
        rw [dotN_comm]
        exact dotN_congr fun j hj => ⟨tabM_gm hB1 hA1 hj hk, tabM_gm hC1 hB1 hi hj⟩
      rw [ebk] at bk
      obtain ⟨mu, dU⟩ := mul_unit hL (by omega) (by omega)
      rw [sh, obind4_eq, fl, obind4_eq, fm, obind4_eq, bk, obind4_eq, fp, obind4_eq, unitM_q (by omega) hB1, obind4_eq, mu, obind4_eq]
      simp only [bsel_true]
      have gF : FOks (tabM C A (fun i k => gm none (tabM A C (mulE B C L M)) C k i)) := tabM_oks hC1 hA1 fun i k => gP.getD _
      have lP := mP.len
      have lK1 : (tabM A C K1).length = A * C := (tabM_mat hA1 hC1).len
      have lK2 : (tabM A C K2).length = A * C := (tabM_mat hA1 hC1).len
      have lU : (tabM A B (mulE B B L (tabM B B unitF))).length = A * B := (tabM_mat hA1 hB1).len
      have hAC := small_mul hA1 hC1
      have hAB := small_mul hA1 hB1
      rw [same_refl gP mP.le, obind_eq, bsel_true, same_refl gF (tabM_mat hC1 hA1).le, obind_eq, bsel_true, lK2, lP, lK1, lU, hL.m.len]
      simp only [decide_true, Bool.not_true, bsel_false]
      have s3 : loopM (w_FnMatrices_s5 (tabM A C (mulE B C L M)) (tabM A C K1) (tabM A C K2)) 0 = some (.inl ()) := by
        refine loop_all (n := A * C) (by omega) (fun i hi => ?_) ?_
        · obtain ⟨f1, i1, i2⟩ := gm_flat (L := tabM A C (mulE B C L M)) (by omega) hi
          obtain ⟨f2, _, _⟩ := gm_flat (L := tabM A C K1) (by omega) hi
          obtain ⟨f3, _, _⟩ := gm_flat (L := tabM A C K2) (by omega) hi
          rw [tabM_gm hA1 hC1 i1 i2] at f1 f2 f3
          have d1 := mulE_dy hL hM i1 i2
          have d2 := hK1 _ _ i1 i2
          have d3 := hK2 _ _ i1 i2
          rw [← f1] at d1
          rw [← f2] at d2
          rw [← f3] at d3
          obtain ⟨z, z1, z2⟩ := gap_zero d3 d1
          show w_FnMatrices_b5 _ _ _ (i : Int) = _
          unfold w_FnMatrices_b5
          rw [lP, dlt hi, bsel_true, at?_n none (by omega), obind_eq, at?_n none (by omega), obind_eq, d2.feq d1, decide_eq_true rfl, Bool.not_true, bsel_false, at?_n none (by omega), obind_eq]
          simp only [olet_eq]
          rw [obind_eq]
          rw [z1, obind_eq, z2, bsel_false, wsucc (by omega)]
        · show w_FnMatrices_b5 _ _ _ ((A * C : Nat) : Int) = _
          unfold w_FnMatrices_b5
          rw [lP, dnlt, bsel_false]
      have s4 : loopM (w_FnMatrices_s6 L (tabM A B (mulE B B L (tabM B B unitF)))) 0 = some (.inl ()) := by
        refine loop_all (n := A * B) (by omega) (fun i hi => ?_) ?_
        · obtain ⟨f1, i1, i2⟩ := gm_flat (L := tabM A B (mulE B B L (tabM B B unitF))) (by omega) hi
          obtain ⟨f2, _, _⟩ := gm_flat (L := L) (by omega) hi
          rw [tabM_gm hA1 hB1 i1 i2] at f1
          have d1 := dU _ _ i1 i2
          have d2 := qd_dy (hL.at i1 i2)
          rw [← f1] at d1
          rw [← f2] at d1 d2
          show w_FnMatrices_b6 _ _ (i : Int) = _
          unfold w_FnMatrices_b6
          rw [hL.m.len, dlt hi, bsel_true, at?_n none (by omega), obind_eq, at?_n none (by rw [hL.m.len]; exact hi), obind_eq, d1.feq d2, decide_eq_true rfl, Bool.not_true, bsel_false, olet_eq, wsucc (by omega)]
        · show w_FnMatrices_b6 _ _ ((A * B : Nat) : Int) = _
          unfold w_FnMatrices_b6
          rw [hL.m.len, dnlt, bsel_false]
      have s5 : loopM (w_FnMatrices_s7 (B : Int) (C : Int) M) ([], 0) = some (.inl (colP B C 0 M)) := by
        have e := (loop_run (step := w_FnMatrices_s7 (B : Int) (C : Int) M) (fun (i : Nat) (l : List F) => (l, (i : Int))) (fun i l => l ++ [gm none M C i 0]) (fun l => l) (fun i l => l.length = i) (lo := 0) (n := B) (Nat.zero_le _) (s0 := []) rfl
          (fun i l _ hi h3 => by
            refine ⟨?_, by simp [h3]⟩
            show w_FnMatrices_b7 _ _ _ l (i : Int) = _
            unfold w_FnMatrices_b7
            have hlt := hM.m.lt hi (show 0 < C by omega)
            have ap : apok 4 l.length 1 = true := by simp [apok]; omega
            have hiC : i * C ≤ 144 := Nat.le_trans (Nat.mul_le_mul (show i ≤ 12 by omega) hC1) (by decide)
            rw [dlt hi, bsel_true, olet_eq, ← Int.natCast_mul, wn (by omega), at?_n none (by omega), obind_eq, ap, need_true, olet_eq, wsucc (by omega)]
            rfl)
          (fun l _ => by
            show w_FnMatrices_b7 _ _ _ _ _ = _
            unfold w_FnMatrices_b7
            rw [dnlt, bsel_false])).1
        rw [Nat.sub_zero, run_map] at e
        exact e
      have cl : (colP A C 0 (tabM A C (mulE B C L M))).length = A := colP_len
      have s8 : loopM (w_FnMatrices_s12 (A : Int) (C : Int) (tabM A C (mulE B C L M)) (colP A C 0 (tabM A C (mulE B C L M)))) 0 = some (.inl ()) := by
        refine loop_all (n := A) (by omega) (fun i hi => ?_) ?_
        · have hlt := mP.lt hi (show 0 < C by omega)
          have hiC : i * C ≤ 144 := Nat.le_trans (Nat.mul_le_mul (show i ≤ 12 by omega) hC1) (by decide)
          have d1 := mulE_dy hL hM hi (show 0 < C by omega)
          rw [← tabM_gm (f := mulE B C L M) hA1 hC1 hi (show 0 < C by omega)] at d1
          have e1 : (colP A C 0 (tabM A C (mulE B C L M))).getD i none = gm none (tabM A C (mulE B C L M)) C i 0 := colP_at hi
          have e2 : (tabM A C (mulE B C L M)).getD (i * C) none = gm none (tabM A C (mulE B C L M)) C i 0 := rfl
          show w_FnMatrices_b12 _ _ _ _ (i : Int) = _
          unfold w_FnMatrices_b12
          rw [dlt hi, bsel_true, at?_n none (by omega), obind_eq, olet_eq, ← Int.natCast_mul, wn (by omega), at?_n none (by omega), obind_eq, e1, e2, d1.feq d1, decide_eq_true rfl, Bool.not_true, bsel_false, olet_eq, wsucc (by omega)]
        · show w_FnMatrices_b12 _ _ _ _ (A : Int) = _
          unfold w_FnMatrices_b12
          rw [dnlt, bsel_false]
      unfold w_FnMatrices_k4
      rw [s3]
      simp only [obind_eq, osum]
      unfold w_FnMatrices_k5
      rw [s4]
      simp only [obind_eq, osum]
      unfold w_FnMatrices_k6
      rw [s5]
      simp only [obind_eq, osum]
      unfold w_FnMatrices_k7
      rw [times_q hL hM (by omega) (by omega) (by omega), obind2_eq, bsel_true, cl, decide_eq_true rfl, Bool.not_true, bsel_false]
      unfold w_FnMatrices_k11
      rw [s8]
      simp only [obind_eq, osum]
      exact mat_end b1 hL (by omega) (by omega)


end Go.Proofs.Ytcjbfpoaidjpaaa
