/- The abstract layer, part 2. -/
import Derived.Test.YtcjbfpoaidjpaaaGreatDoorAm1
set_option linter.unusedVariables false
namespace Go.AM
open Ieee
def lpn (k : FloatKind) : Nat := match k with | .f32 => 149 | .f64 => 1074
def dgn (k : FloatKind) : Nat := match k with | .f32 => 24 | .f64 => 53
def topn (k : FloatKind) : Nat := match k with | .f32 => 277 | .f64 => 2098
theorem lpn_eq (k : FloatKind) : k.format.leastPlace = -((lpn k : Nat) : Int) := by cases k <;> decide
theorem dgn_eq (k : FloatKind) : 2 ^ dgn k = 2 * k.format.binade := by cases k <;> decide
theorem topn_eq (k : FloatKind) : rval k.format k.format.infRung = 2 ^ topn k := by cases k <;> decide +kernel
theorem dg_top (k : FloatKind) : dgn k + lpn k < topn k := by cases k <;> decide
theorem rung_high (f : Format) {e q : Nat} (h1 : f.binade ≤ q) (h2 : q < 2 * f.binade) : rval f ((e + 1) * f.binade + (q - f.binade)) = q * 2 ^ e := by
 have hB := binade_pos f
 have hlt : q - f.binade < f.binade := by omega
 have hge : ¬ (e + 1) * f.binade + (q - f.binade) < f.binade := by
  rw [Nat.add_mul, Nat.one_mul]; omega
 unfold rval
 rw [if_neg hge]
 have m1 : ((e + 1) * f.binade + (q - f.binade)) % f.binade = q - f.binade := by
  rw [Nat.add_comm, Nat.add_mul_mod_self_right, Nat.mod_eq_of_lt hlt]
 have d1 : ((e + 1) * f.binade + (q - f.binade)) / f.binade = e + 1 := by
  rw [Nat.add_comm, Nat.add_mul_div_right _ _ hB, Nat.div_eq_of_lt hlt, Nat.zero_add]
 rw [m1, d1, show f.binade + (q - f.binade) = q from by omega, Nat.add_sub_cancel]
theorem rep (f : Format) : ∀ (t m : Nat), m < 2 * f.binade → ∃ r, rval f r = m * 2 ^ t
 | t, m, h => by
  by_cases h1 : f.binade ≤ m
  ·exact ⟨_, rung_high f h1 h⟩
  ·match t with
   | 0 => exact ⟨m, by unfold rval; rw [if_pos (by omega)]; simp⟩
   | t + 1 =>
    obtain ⟨r, hr⟩ := rep f t (2 * m) (by omega)
    exact ⟨r, by rw [hr, Nat.pow_succ, Nat.mul_comm 2 m, Nat.mul_assoc, Nat.mul_comm 2]⟩
theorem lt_inf {k : FloatKind} {r : Nat} (h : rval k.format r < 2 ^ topn k) : r < k.format.infRung := by
 rcases Nat.lt_or_ge r k.format.infRung with h1 | h1
 ·exact h1
 ·have := rval_le k.format h1
  rw [topn_eq] at this; omega
def fval (k : FloatKind) (b : Nat) : Int := sval (wneg k.format b) (rval k.format (wrung k.format b))
def Dy (k : FloatKind) (s : Nat) (n : Int) (x : F) : Prop := ∃ b, x = some b ∧ b < 2 ^ k.format.width ∧ wrung k.format b < k.format.infRung ∧ s ≤ lpn k ∧ fval k b = n * ((2 ^ (lpn k - s) : Nat) : Int)
theorem sval_natAbs (s : Bool) (v : Nat) : (sval s v).natAbs = v := by cases s <;> simp [sval]
theorem sval_of {n : Int} {sg : Bool} (h : n ≠ 0 → sg = decide (n < 0)) : sval sg n.natAbs = n := by
 by_cases hn : n = 0
 ·subst hn; cases sg <;> rfl
 ·rw [h hn]
  by_cases h0 : n < 0
  ·rw [decide_eq_true h0]; simp only [sval, if_true]; omega
  ·rw [decide_eq_false h0]; simp only [sval]; simp; omega
theorem Dy.word {k : FloatKind} {s : Nat} {n : Int} {sg : Bool} {r : Nat} (hs : s ≤ lpn k) (hr : rval k.format r = n.natAbs * 2 ^ (lpn k - s)) (hn : n.natAbs < 2 ^ dgn k) (h : n ≠ 0 → sg = decide (n < 0)) : Dy k s n (some (k.format.word sg r)) := by
 have hlt : r < k.format.infRung := by
  refine lt_inf ?_
  rw [hr]
  refine Nat.lt_of_lt_of_le (Nat.mul_lt_mul_of_pos_right hn (Nat.two_pow_pos _)) ?_
  rw [← Nat.pow_add]
  exact Nat.pow_le_pow_right (by decide) (by have := dg_top k; omega)
 have hi := k.format.infRung_lt
 obtain ⟨k1, k2⟩ := wneg_word k.format sg (r := r) (by omega)
 refine ⟨_, rfl, k.format.word_lt sg (by omega), by rw [k2]; exact hlt, hs, ?_⟩
 unfold fval
 rw [k1, k2, hr]
 have := sval_of h
 unfold sval at this ⊢
 cases sg
 ·simp at this ⊢; rw [this]
 ·simp at this ⊢; rw [← Int.neg_mul, this]
theorem sval_signed (s : Bool) (m a c : Nat) (hc : c ≤ a) : sval s (m * 2 ^ a) = signed s m (a - c) * ((2 ^ c : Nat) : Int) := by
 have : m * 2 ^ a = (m <<< (a - c)) * 2 ^ c := by
  rw [Nat.shiftLeft_eq, Nat.mul_assoc, ← Nat.pow_add]
  congr 2; omega
 unfold sval signed
 rw [this]
 cases s <;> simp [Int.neg_mul]
theorem sum_num (f : Format) {s t : Bool} {m n a b r : Nat} (hr : r ≤ f.infRung) (h : rval f r = (sval s (m * 2 ^ a) + sval t (n * 2 ^ b)).natAbs) :
  ∃ sg, (sval s (m * 2 ^ a) + sval t (n * 2 ^ b) ≠ 0 → sg = decide (sval s (m * 2 ^ a) + sval t (n * 2 ^ b) < 0)) ∧ (Datum.sum (.number s m (f.leastPlace + a)) (.number t n (f.leastPlace + b))).map f.write = some (f.word sg r) := by
 simp only [Datum.sum]
 have e1 : (f.leastPlace + (a : Int) - min (f.leastPlace + (a : Int)) (f.leastPlace + (b : Int))).toNat = a - min a b := by omega
 have e2 : (f.leastPlace + (b : Int) - min (f.leastPlace + (a : Int)) (f.leastPlace + (b : Int))).toNat = b - min a b := by omega
 have e3 : min (f.leastPlace + (a : Int)) (f.leastPlace + (b : Int)) = f.leastPlace + ((min a b : Nat) : Int) := by omega
 rw [e1, e2, e3]
 rw [sval_signed s m a (min a b) (Nat.min_le_left _ _), sval_signed t n b (min a b) (Nat.min_le_right _ _), ← Int.add_mul] at h ⊢
 generalize signed s m (a - min a b) + signed t n (b - min a b) = total at h ⊢
 have hp := Nat.two_pow_pos (min a b)
 have hpi : (0 : Int) < ((2 ^ min a b : Nat) : Int) := by omega
 refine ⟨if total = 0 then s && t else decide (total < 0), fun hne => ?_, ?_⟩
 ·have h0 : total ≠ 0 := fun e => hne (by rw [e, Int.zero_mul])
  rw [if_neg h0]
  by_cases hl : total < 0
  ·rw [decide_eq_true hl, decide_eq_true (Int.mul_neg_of_neg_of_pos hl hpi)]
  ·rw [decide_eq_false hl, decide_eq_false]
   have := Int.mul_nonneg (show (0 : Int) ≤ total by omega) (show (0 : Int) ≤ ((2 ^ min a b : Nat) : Int) by omega)
   omega
 ·simp only [Option.map_some]
  congr 1
  refine nearest_exact f _ hr (b := 0) (c := min a b) (by omega) ?_
  rw [h, Int.natAbs_mul]; simp
theorem mul_num (f : Format) {L : Nat} (hL : f.leastPlace = -(L : Int)) {s t : Bool} {m n a b r : Nat} (hr : r ≤ f.infRung) (h : rval f r * 2 ^ L = (m * 2 ^ a) * (n * 2 ^ b)) :
  (Datum.product (.number s m (f.leastPlace + a)) (.number t n (f.leastPlace + b))).map f.write = some (f.word (s ^^ t) r) := by
 simp only [Datum.product, Option.map_some]
 congr 1
 refine nearest_exact f _ hr (b := L) (c := a + b) (by rw [hL]; omega) ?_
 rw [h, Nat.pow_add]
 rw [Nat.mul_mul_mul_comm]
theorem Dy.fok {k : FloatKind} {s : Nat} {n : Int} {x : F} (h : Dy k s n x) : FOk k x := by
 obtain ⟨b, rfl, h1, h2, _⟩ := h
 obtain ⟨m, a, e, _⟩ := read_fin k.format h2
 exact ⟨b, rfl, h1, by rw [e]; rfl⟩
theorem Dy.add {k : FloatKind} {s : Nat} {n m : Int} {x y : F} (hx : Dy k s n x) (hy : Dy k s m y) (h : (n + m).natAbs < 2 ^ dgn k) : Dy k s (n + m) (fop .add k x y) := by
 obtain ⟨b, rfl, h1, h2, hs, h3⟩ := hx
 obtain ⟨c, rfl, g1, g2, _, g3⟩ := hy
 obtain ⟨p, a, e1, e2⟩ := read_fin k.format h2
 obtain ⟨q, d, e3, e4⟩ := read_fin k.format g2
 unfold fval at h3 g3
 rw [← e2] at h3
 rw [← e4] at g3
 obtain ⟨r, hr⟩ := rep k.format (lpn k - s) (n + m).natAbs (by rw [← dgn_eq]; exact h)
 have hsum : sval (wneg k.format b) (p * 2 ^ a) + sval (wneg k.format c) (q * 2 ^ d) = (n + m) * ((2 ^ (lpn k - s) : Nat) : Int) := by rw [h3, g3, Int.add_mul]
 have hlt : r < k.format.infRung := by
  refine lt_inf ?_
  rw [hr]
  refine Nat.lt_of_lt_of_le (Nat.mul_lt_mul_of_pos_right h (Nat.two_pow_pos _)) ?_
  rw [← Nat.pow_add]
  exact Nat.pow_le_pow_right (by decide) (by have := dg_top k; omega)
 obtain ⟨sg, k1, k2⟩ := sum_num k.format (s := wneg k.format b) (t := wneg k.format c) (m := p) (n := q) (a := a) (b := d) (r := r) (by omega) (by rw [hsum, hr, Int.natAbs_mul]; simp)
 have e : fop .add k (some b) (some c) = some (k.format.word sg r) := by
  show k.format.add b c = _
  unfold Format.add
  rw [e1, e3]; exact k2
 rw [e]
 refine Dy.word hs hr h fun hne => ?_
 have hp : (0 : Int) < ((2 ^ (lpn k - s) : Nat) : Int) := by have := Nat.two_pow_pos (lpn k - s); omega
 rw [hsum] at k1
 rw [k1 (Int.mul_ne_zero hne (by omega))]
 by_cases hl : n + m < 0
 ·rw [decide_eq_true hl, decide_eq_true (Int.mul_neg_of_neg_of_pos hl hp)]
 ·rw [decide_eq_false hl, decide_eq_false]
  have := Int.mul_nonneg (show (0 : Int) ≤ n + m by omega) (show (0 : Int) ≤ ((2 ^ (lpn k - s) : Nat) : Int) by omega)
  omega
theorem sval_not (s : Bool) (v : Nat) : sval (!s) v = -(sval s v) := by cases s <;> simp [sval]
theorem Dy.sub {k : FloatKind} {s : Nat} {n m : Int} {x y : F} (hx : Dy k s n x) (hy : Dy k s m y) (h : (n - m).natAbs < 2 ^ dgn k) : Dy k s (n - m) (fop .sub k x y) := by
 obtain ⟨b, rfl, h1, h2, hs, h3⟩ := hx
 obtain ⟨c, rfl, g1, g2, _, g3⟩ := hy
 obtain ⟨p, a, e1, e2⟩ := read_fin k.format h2
 obtain ⟨q, d, e3, e4⟩ := read_fin k.format g2
 unfold fval at h3 g3
 rw [← e2] at h3
 rw [← e4] at g3
 obtain ⟨r, hr⟩ := rep k.format (lpn k - s) (n - m).natAbs (by rw [← dgn_eq]; exact h)
 have hsum : sval (wneg k.format b) (p * 2 ^ a) + sval (!wneg k.format c) (q * 2 ^ d) = (n - m) * ((2 ^ (lpn k - s) : Nat) : Int) := by rw [sval_not, h3, g3, Int.sub_mul, Int.sub_eq_add_neg]
 have hlt : r < k.format.infRung := by
  refine lt_inf ?_
  rw [hr]
  refine Nat.lt_of_lt_of_le (Nat.mul_lt_mul_of_pos_right h (Nat.two_pow_pos _)) ?_
  rw [← Nat.pow_add]
  exact Nat.pow_le_pow_right (by decide) (by have := dg_top k; omega)
 obtain ⟨sg, k1, k2⟩ := sum_num k.format (s := wneg k.format b) (t := !wneg k.format c) (m := p) (n := q) (a := a) (b := d) (r := r) (by omega) (by rw [hsum, hr, Int.natAbs_mul]; simp)
 have e : fop .sub k (some b) (some c) = some (k.format.word sg r) := by
  show k.format.sub b c = _
  unfold Format.sub
  rw [e1, e3]; exact k2
 rw [e]
 refine Dy.word hs hr h fun hne => ?_
 have hp : (0 : Int) < ((2 ^ (lpn k - s) : Nat) : Int) := by have := Nat.two_pow_pos (lpn k - s); omega
 rw [hsum] at k1
 rw [k1 (Int.mul_ne_zero hne (by omega))]
 by_cases hl : n - m < 0
 ·rw [decide_eq_true hl, decide_eq_true (Int.mul_neg_of_neg_of_pos hl hp)]
 ·rw [decide_eq_false hl, decide_eq_false]
  have := Int.mul_nonneg (show (0 : Int) ≤ n - m by omega) (show (0 : Int) ≤ ((2 ^ (lpn k - s) : Nat) : Int) by omega)
  omega
theorem sval_sign {s : Bool} {v : Nat} {n p : Int} (hp : 0 < p) (h : sval s v = n * p) (hn : n ≠ 0) : s = decide (n < 0) := by
 cases s
 ·refine (decide_eq_false fun h0 => ?_).symm
  have := Int.mul_neg_of_neg_of_pos h0 hp
  simp only [sval] at h
  simp at h; omega
 ·refine (decide_eq_true ?_).symm
  rcases Int.lt_or_le n 0 with h0 | h0
  ·exact h0
  ·exfalso
   have := Int.mul_pos (show 0 < n by omega) hp
   simp only [sval] at h
   simp at h; omega
theorem Dy.mul {k : FloatKind} {s t : Nat} {n m : Int} {x y : F} (hx : Dy k s n x) (hy : Dy k t m y) (hst : s + t ≤ lpn k) (h : (n * m).natAbs < 2 ^ dgn k) : Dy k (s + t) (n * m) (fop .mul k x y) := by
 obtain ⟨b, rfl, h1, h2, hs, h3⟩ := hx
 obtain ⟨c, rfl, g1, g2, ht, g3⟩ := hy
 obtain ⟨p, a, e1, e2⟩ := read_fin k.format h2
 obtain ⟨q, d, e3, e4⟩ := read_fin k.format g2
 unfold fval at h3 g3
 rw [← e2] at h3
 rw [← e4] at g3
 obtain ⟨r, hr⟩ := rep k.format (lpn k - (s + t)) (n * m).natAbs (by rw [← dgn_eq]; exact h)
 have hlt : r < k.format.infRung := by
  refine lt_inf ?_
  rw [hr]
  refine Nat.lt_of_lt_of_le (Nat.mul_lt_mul_of_pos_right h (Nat.two_pow_pos _)) ?_
  rw [← Nat.pow_add]
  exact Nat.pow_le_pow_right (by decide) (by have := dg_top k; omega)
 have n1 : p * 2 ^ a = n.natAbs * 2 ^ (lpn k - s) := by
  have := congrArg Int.natAbs h3
  rw [sval_natAbs, Int.natAbs_mul] at this
  simpa using this
 have n2 : q * 2 ^ d = m.natAbs * 2 ^ (lpn k - t) := by
  have := congrArg Int.natAbs g3
  rw [sval_natAbs, Int.natAbs_mul] at this
  simpa using this
 have e : fop .mul k (some b) (some c) = some (k.format.word (wneg k.format b ^^ wneg k.format c) r) := by
  show k.format.mul b c = _
  unfold Format.mul
  rw [e1, e3]
  refine mul_num k.format (lpn_eq k) (by omega) ?_
  rw [hr, n1, n2, Int.natAbs_mul, Nat.mul_assoc, ← Nat.pow_add, Nat.mul_mul_mul_comm, ← Nat.pow_add]
  congr 2; omega
 rw [e]
 refine Dy.word hst hr h fun hne => ?_
 have hp1 : (0 : Int) < ((2 ^ (lpn k - s) : Nat) : Int) := by have := Nat.two_pow_pos (lpn k - s); omega
 have hp2 : (0 : Int) < ((2 ^ (lpn k - t) : Nat) : Int) := by have := Nat.two_pow_pos (lpn k - t); omega
 have hn0 : n ≠ 0 := fun e => hne (by rw [e, Int.zero_mul])
 have hm0 : m ≠ 0 := fun e => hne (by rw [e, Int.mul_zero])
 rw [sval_sign hp1 h3 hn0, sval_sign hp2 g3 hm0]
 rcases Int.lt_or_gt_of_ne hn0 with u | u <;> rcases Int.lt_or_gt_of_ne hm0 with v | v
 ·have := Int.mul_pos_of_neg_of_neg u v
  rw [decide_eq_true u, decide_eq_true v, decide_eq_false (by omega)]; rfl
 ·have := Int.mul_neg_of_neg_of_pos u v
  rw [decide_eq_true u, decide_eq_false (by omega), decide_eq_true this]; rfl
 ·have := Int.mul_neg_of_pos_of_neg u v
  rw [decide_eq_false (by omega), decide_eq_true v, decide_eq_true this]; rfl
 ·have := Int.mul_pos u v
  rw [decide_eq_false (by omega), decide_eq_false (by omega), decide_eq_false (by omega)]; rfl
theorem Dy.ord {k : FloatKind} {s : Nat} {n m : Int} {x y : F} (hx : Dy k s n x) (hy : Dy k s m y) : ford k x y = some (compare n m) := by
 obtain ⟨b, rfl, h1, h2, hs, h3⟩ := hx
 obtain ⟨c, rfl, g1, g2, _, g3⟩ := hy
 show k.format.order b c = _
 rw [order_fin k.format h2 g2]
 unfold fval at h3 g3
 rw [h3, g3, compare_mul (by have := Nat.two_pow_pos (lpn k - s); omega)]
theorem Dy.feq {k : FloatKind} {s : Nat} {n m : Int} {x y : F} (hx : Dy k s n x) (hy : Dy k s m y) : feq k x y = decide (n = m) := by
 unfold AM.feq
 rw [hx.ord hy]
 rcases Int.lt_trichotomy n m with h | h | h
 ·rw [Int.compare_eq_lt.2 h, decide_eq_false (by omega)]; rfl
 ·rw [Int.compare_eq_eq.2 h, decide_eq_true h]; rfl
 ·rw [Int.compare_eq_gt.2 h, decide_eq_false (by omega)]; rfl
theorem Dy.flt {k : FloatKind} {s : Nat} {n m : Int} {x y : F} (hx : Dy k s n x) (hy : Dy k s m y) : flt k x y = decide (n < m) := by
 unfold AM.flt
 rw [hx.ord hy]
 rcases Int.lt_trichotomy n m with h | h | h
 ·rw [Int.compare_eq_lt.2 h, decide_eq_true h]; rfl
 ·rw [Int.compare_eq_eq.2 h, decide_eq_false (by omega)]; rfl
 ·rw [Int.compare_eq_gt.2 h, decide_eq_false (by omega)]; rfl
theorem Dy.fle {k : FloatKind} {s : Nat} {n m : Int} {x y : F} (hx : Dy k s n x) (hy : Dy k s m y) : fle k x y = decide (n ≤ m) := by
 unfold AM.fle
 rw [hx.ord hy]
 rcases Int.lt_trichotomy n m with h | h | h
 ·rw [Int.compare_eq_lt.2 h, decide_eq_true (by omega)]; rfl
 ·rw [Int.compare_eq_eq.2 h, decide_eq_true (by omega)]; rfl
 ·rw [Int.compare_eq_gt.2 h, decide_eq_false (by omega)]; rfl
theorem Dy.zero (k : FloatKind) {s : Nat} (hs : s ≤ lpn k) : Dy k s 0 (some 0) := by
 have e : (0 : Nat) = k.format.word false 0 := rfl
 rw [e]
 exact Dy.word hs (by rw [rval_zero]; simp) (Nat.two_pow_pos _) fun h => absurd rfl h
theorem Dy.int {k : FloatKind} {n : Int} (h : n.natAbs < 2 ^ dgn k) : Dy k 0 n (fint k n) := by
 obtain ⟨r, hr⟩ := rep k.format (lpn k) n.natAbs (by rw [← dgn_eq]; exact h)
 have hlt : r < k.format.infRung := by
  refine lt_inf ?_
  rw [hr]
  refine Nat.lt_of_lt_of_le (Nat.mul_lt_mul_of_pos_right h (Nat.two_pow_pos _)) ?_
  rw [← Nat.pow_add]
  exact Nat.pow_le_pow_right (by decide) (by have := dg_top k; omega)
 have e : fint k n = some (k.format.word (decide (n < 0)) r) := by
  unfold fint
  congr 1
  show k.format.nearest (decide (n < 0)) n.natAbs 0 = _
  refine nearest_exact k.format _ (by omega) (b := 0) (c := lpn k) (by rw [lpn_eq]; omega) ?_
  rw [hr]; simp
 rw [e]
 exact Dy.word (by omega) hr h fun _ => rfl
theorem Dy.word' {k : FloatKind} {s : Nat} {n : Int} {sg : Bool} {r : Nat} (hs : s ≤ lpn k) (hr : rval k.format r = n.natAbs * 2 ^ (lpn k - s)) (hlt : r < k.format.infRung) (h : n ≠ 0 → sg = decide (n < 0)) : Dy k s n (some (k.format.word sg r)) := by
 have hi := k.format.infRung_lt
 obtain ⟨k1, k2⟩ := wneg_word k.format sg (r := r) (by omega)
 refine ⟨_, rfl, k.format.word_lt sg (by omega), by rw [k2]; exact hlt, hs, ?_⟩
 unfold fval
 rw [k1, k2, hr]
 have := sval_of h
 unfold sval at this ⊢
 cases sg
 ·simp at this ⊢; rw [this]
 ·simp at this ⊢; rw [← Int.neg_mul, this]
theorem rval_split (f : Format) (r : Nat) : ∃ q e, rval f r = q * 2 ^ e ∧ q < 2 * f.binade := by
 have hB := binade_pos f
 unfold rval
 split
 ·exact ⟨r, 0, by simp, by omega⟩
 ·exact ⟨_, _, rfl, by have := Nat.mod_lt r hB; omega⟩
theorem quo_num (f : Format) {L : Nat} (hL : f.leastPlace = -(L : Int)) {s t : Bool} {m n a b r : Nat} (hn : n ≠ 0) (hr : r ≤ f.infRung) (h : rval f r * (n * 2 ^ b) = (m * 2 ^ a) * 2 ^ L) :
  (Datum.quotient (f.fractionBits + 2) (.number s m (f.leastPlace + a)) (.number t n (f.leastPlace + b))).map f.write = some (f.word (s ^^ t) r) := by
 have hdvd : (m * 2 ^ (f.fractionBits + 2 + n.log2 - m.log2)) % n = 0 := by
  by_cases hm : m = 0
  ·subst hm; simp
  obtain ⟨q, e, hq, hq2⟩ := rval_split f r
  rw [hq] at h
  have hqn : q * n * 2 ^ (e + b) = m * 2 ^ (a + L) := by
   rw [Nat.pow_add, Nat.pow_add, ← Nat.mul_assoc m, ← h, Nat.mul_mul_mul_comm]
  have hq0 : q ≠ 0 := by
   intro e0
   rw [e0, Nat.zero_mul, Nat.zero_mul] at hqn
   rcases Nat.mul_eq_zero.1 hqn.symm with h0 | h0
   ·exact hm h0
   ·exact absurd h0 (Nat.ne_of_gt (Nat.two_pow_pos _))
  by_cases hc : a + L ≤ e + b
  ·have e1 : 2 ^ (e + b) = 2 ^ (e + b - (a + L)) * 2 ^ (a + L) := by rw [← Nat.pow_add]; congr 1; omega
   rw [e1, ← Nat.mul_assoc] at hqn
   have := Nat.eq_of_mul_eq_mul_right (Nat.two_pow_pos (a + L)) hqn
   rw [← this, Nat.mul_right_comm q n, Nat.mul_right_comm _ n]
   exact Nat.mul_mod_left _ _
  ·have e1 : 2 ^ (a + L) = 2 ^ (a + L - (e + b)) * 2 ^ (e + b) := by rw [← Nat.pow_add]; congr 1; omega
   rw [e1, ← Nat.mul_assoc] at hqn
   have hqd := Nat.eq_of_mul_eq_mul_right (Nat.two_pow_pos (e + b)) hqn
   generalize hd : a + L - (e + b) = d at hqd
   have hlog : m.log2 + d = (q * n).log2 := by rw [hqd, log2_mul_pow hm]
   have hn1 : n < 2 ^ (n.log2 + 1) := (Nat.log2_lt hn).1 (Nat.lt_succ_self _)
   have hb2 : q < 2 ^ (f.fractionBits + 1) := by
    rw [Nat.pow_succ, Nat.mul_comm]; exact hq2
   have hlt : (q * n).log2 < f.fractionBits + 1 + (n.log2 + 1) := by
    refine (Nat.log2_lt (Nat.mul_ne_zero hq0 hn)).2 ?_
    rw [Nat.pow_add]
    exact Nat.mul_lt_mul'' hb2 hn1
   have hmore : 2 ^ (f.fractionBits + 2 + n.log2 - m.log2) = 2 ^ d * 2 ^ (f.fractionBits + 2 + n.log2 - m.log2 - d) := by rw [← Nat.pow_add]; congr 1; omega
   rw [hmore, ← Nat.mul_assoc, ← hqd, Nat.mul_right_comm]
   exact Nat.mul_mod_left _ _
 have e3 : ∀ more : Nat, (f.leastPlace + (a : Int)) - (f.leastPlace + (b : Int)) - (more : Int) - 1 + ((b + more + 1 : Nat) : Int) = f.leastPlace + ((a + L : Nat) : Int) := by intro more; rw [hL]; omega
 simp only [Datum.quotient, hn, if_false, Option.map_some]
 generalize hmo : f.fractionBits + 2 + n.log2 - m.log2 = more at *
 rw [Nat.shiftLeft_eq]
 congr 1
 rw [hdvd]
 refine nearest_exact f _ hr (b := b + more + 1) (c := a + L) (e3 more) ?_
 have hQ : n * (m * 2 ^ more / n) = m * 2 ^ more := Nat.mul_div_cancel' (Nat.dvd_of_mod_eq_zero hdvd)
 generalize m * 2 ^ more / n = Q at hQ
 have : n * ((2 * Q + (0 != 0 : Bool).toNat) * 2 ^ (a + L)) = n * (rval f r * 2 ^ (b + more + 1)) := by
  show n * ((2 * Q + 0) * 2 ^ (a + L)) = _
  have h2 : rval f r * (n * 2 ^ b) * (2 ^ more * 2) = m * 2 ^ a * 2 ^ L * (2 ^ more * 2) := by rw [h]
  rw [Nat.pow_add 2 a L, Nat.pow_add 2 (b + more) 1, Nat.pow_add 2 b more, Nat.pow_one]
  have l : n * ((2 * Q + 0) * (2 ^ a * 2 ^ L)) = n * Q * (2 ^ a * 2 ^ L * 2) := by
   rw [Nat.add_zero]; simp only [Nat.mul_comm, Nat.mul_assoc]
  rw [l, hQ]
  have l2 : m * 2 ^ more * (2 ^ a * 2 ^ L * 2) = m * 2 ^ a * 2 ^ L * (2 ^ more * 2) := by simp only [Nat.mul_comm, Nat.mul_left_comm, Nat.mul_assoc]
  rw [l2, ← h2]
  simp only [Nat.mul_comm, Nat.mul_left_comm, Nat.mul_assoc]
 exact Nat.eq_of_mul_eq_mul_left (Nat.pos_of_ne_zero hn) this
theorem Dy.quo {k : FloatKind} {s t : Nat} {q m : Int} {x y : F} (hx : Dy k s (q * m) x) (hy : Dy k t m y) (hm : m ≠ 0) (hst : t ≤ s) (h : q.natAbs < 2 ^ dgn k) : Dy k (s - t) q (fop .quo k x y) := by
 obtain ⟨b, rfl, h1, h2, hs, h3⟩ := hx
 obtain ⟨c, rfl, g1, g2, ht, g3⟩ := hy
 obtain ⟨p, a, e1, e2⟩ := read_fin k.format h2
 obtain ⟨w, d, e3, e4⟩ := read_fin k.format g2
 unfold fval at h3 g3
 rw [← e2] at h3
 rw [← e4] at g3
 obtain ⟨r, hr⟩ := rep k.format (lpn k - (s - t)) q.natAbs (by rw [← dgn_eq]; exact h)
 have hlt : r < k.format.infRung := by
  refine lt_inf ?_
  rw [hr]
  refine Nat.lt_of_lt_of_le (Nat.mul_lt_mul_of_pos_right h (Nat.two_pow_pos _)) ?_
  rw [← Nat.pow_add]
  exact Nat.pow_le_pow_right (by decide) (by have := dg_top k; omega)
 have n1 : p * 2 ^ a = (q.natAbs * m.natAbs) * 2 ^ (lpn k - s) := by
  have := congrArg Int.natAbs h3
  rw [sval_natAbs, Int.natAbs_mul, Int.natAbs_mul] at this
  simpa using this
 have n2 : w * 2 ^ d = m.natAbs * 2 ^ (lpn k - t) := by
  have := congrArg Int.natAbs g3
  rw [sval_natAbs, Int.natAbs_mul] at this
  simpa using this
 have hw : w ≠ 0 := by
  intro e0
  rw [e0, Nat.zero_mul] at n2
  have := Nat.mul_pos (show 0 < m.natAbs by omega) (Nat.two_pow_pos (lpn k - t))
  omega
 have e : fop .quo k (some b) (some c) = some (k.format.word (wneg k.format b ^^ wneg k.format c) r) := by
  show k.format.div b c = _
  unfold Format.div
  rw [e1, e3]
  refine quo_num k.format (lpn_eq k) hw (by omega) ?_
  rw [hr, n1, n2, Nat.mul_mul_mul_comm, ← Nat.pow_add, Nat.mul_assoc (q.natAbs * m.natAbs), ← Nat.pow_add]
  congr 2; omega
 rw [e]
 refine Dy.word (by omega) hr h fun hne => ?_
 have hp1 : (0 : Int) < ((2 ^ (lpn k - s) : Nat) : Int) := by have := Nat.two_pow_pos (lpn k - s); omega
 have hp2 : (0 : Int) < ((2 ^ (lpn k - t) : Nat) : Int) := by have := Nat.two_pow_pos (lpn k - t); omega
 rw [sval_sign hp1 h3 (Int.mul_ne_zero hne hm), sval_sign hp2 g3 hm]
 rcases Int.lt_or_gt_of_ne hne with u | u <;> rcases Int.lt_or_gt_of_ne hm with v | v
 ·have := Int.mul_pos_of_neg_of_neg u v
  rw [decide_eq_false (by omega), decide_eq_true v, decide_eq_true u]; rfl
 ·have := Int.mul_neg_of_neg_of_pos u v
  rw [decide_eq_true this, decide_eq_false (by omega), decide_eq_true u]; rfl
 ·have := Int.mul_neg_of_pos_of_neg u v
  rw [decide_eq_true this, decide_eq_true v, decide_eq_false (by omega)]; rfl
 ·have := Int.mul_pos u v
  rw [decide_eq_false (by omega), decide_eq_false (by omega), decide_eq_false (by omega)]; rfl
theorem Dy.widen {s : Nat} {n : Int} {x : F} (hx : Dy .f32 s n x) : Dy .f64 s n (fwiden x) := by
 obtain ⟨b, rfl, h1, h2, hs, h3⟩ := hx
 have hs : s ≤ 149 := hs
 have h2 : wrung single b < single.infRung := h2
 obtain ⟨p, a, e1, e2⟩ := read_fin single h2
 unfold fval at h3
 have h3 : sval (wneg single b) (rval single (wrung single b)) = n * ((2 ^ (149 - s) : Nat) : Int) := h3
 rw [← e2] at h3
 have n1 : p * 2 ^ a = n.natAbs * 2 ^ (149 - s) := by
  have := congrArg Int.natAbs h3
  rw [sval_natAbs, Int.natAbs_mul] at this
  simpa using this
 obtain ⟨hp, _, _⟩ := single_num e1
 obtain ⟨G, hG⟩ : ∃ G : Nat, G = 925 := ⟨925, rfl⟩
 obtain ⟨r, hr⟩ := rep double (a + G) p (by have e5 : (2 * double.binade) = 2 ^ 53 := (by decide); have e6 : (2 : Nat) ^ 24 < 2 ^ 53 := (by decide); omega)
 have hrn : rval double r = n.natAbs * 2 ^ (1074 - s) := by
  rw [hr, Nat.pow_add, ← Nat.mul_assoc, n1, Nat.mul_assoc, ← Nat.pow_add]
  congr 2; omega
 have hlt : r < double.infRung := by
  refine lt_inf (k := .f64) ?_
  show rval double r < 2 ^ topn .f64
  rw [hr, Nat.pow_add, ← Nat.mul_assoc, e2]
  have t1 : rval single (wrung single b) < 2 ^ topn .f32 := by
   exact (topn_eq .f32) ▸ rval_mono single h2
  refine Nat.lt_of_lt_of_le (Nat.mul_lt_mul_of_pos_right t1 (Nat.two_pow_pos _)) ?_
  rw [← Nat.pow_add]
  exact Nat.pow_le_pow_right (by decide) (by show 277 + G ≤ 2098; omega)
 have e : fwiden (some b) = some (double.word (wneg single b) r) := by
  show some (double.write (single.read b)) = _
  rw [e1]
  congr 1
  refine nearest_exact double _ (by omega) (b := 0) (c := a + G) ?_ (by rw [hr]; simp)
  show (single.leastPlace + (a : Int)) + ((0 : Nat) : Int) = double.leastPlace + ((a + G : Nat) : Int)
  rw [show single.leastPlace = -149 from by decide, show double.leastPlace = -1074 from by decide]; omega
 rw [e]
 refine Dy.word' (k := .f64) (show s ≤ 1074 by omega) hrn hlt fun hne => sval_sign ?_ h3 hne
 have := Nat.two_pow_pos (149 - s); omega
theorem Dy.narrow {s : Nat} {n : Int} {x : F} (hx : Dy .f64 s n x) (hs : s ≤ 149) (hn : n.natAbs < 16777216) : ∃ z, fnarrow x = some z ∧ Dy .f32 s n z := by
 obtain ⟨b, rfl, h1, h2, _, h3⟩ := hx
 have h2 : wrung double b < double.infRung := h2
 obtain ⟨p, a, e1, e2⟩ := read_fin double h2
 unfold fval at h3
 have h3 : sval (wneg double b) (rval double (wrung double b)) = n * ((2 ^ (1074 - s) : Nat) : Int) := h3
 rw [← e2] at h3
 have n1 : p * 2 ^ a = n.natAbs * 2 ^ (1074 - s) := by
  have := congrArg Int.natAbs h3
  rw [sval_natAbs, Int.natAbs_mul] at this
  simpa using this
 obtain ⟨r, hr⟩ := rep single (149 - s) n.natAbs (by have e5 : 2 * single.binade = 16777216 := (by decide); omega)
 have hd : n.natAbs < 2 ^ dgn .f32 := hn
 have hlt : r < single.infRung := by
  refine lt_inf (k := .f32) ?_
  show rval single r < 2 ^ topn .f32
  rw [hr]
  refine Nat.lt_of_lt_of_le (Nat.mul_lt_mul_of_pos_right hd (Nat.two_pow_pos _)) ?_
  rw [← Nat.pow_add]
  exact Nat.pow_le_pow_right (by decide) (by show 24 + (149 - s) ≤ 277; omega)
 obtain ⟨G, hG⟩ : ∃ G : Nat, G = 925 := ⟨925, rfl⟩
 have e : FloatKind.f32.encode (.number (wneg double b) p (double.leastPlace + (a : Int))) = single.word (wneg double b) r := by
  refine nearest_exact single _ (by omega) (b := G) (c := a) ?_ ?_
  ·rw [show single.leastPlace = -149 from by decide, show double.leastPlace = -1074 from by decide]; omega
  ·rw [hr, n1, Nat.mul_assoc, ← Nat.pow_add]
   congr 2; omega
 have hi := single.infRung_lt
 obtain ⟨k1, k2⟩ := wneg_word single (wneg double b) (r := r) (by omega)
 refine ⟨some (single.word (wneg double b) r), ?_, ?_⟩
 ·have hdec : FloatKind.f64.decode b = .number (wneg double b) p (double.leastPlace + (a : Int)) := e1
  unfold fnarrow
  simp only [hdec, e]
  obtain ⟨m', a', e5, _⟩ := read_fin single (w := single.word (wneg double b) r) (by rw [k2]; exact hlt)
  rw [show FloatKind.f32.decode (single.word (wneg double b) r) = single.read (single.word (wneg double b) r) from rfl, e5]
  rfl
 ·refine Dy.word' (k := .f32) hs hr hlt fun hne => sval_sign ?_ h3 hne
  have := Nat.two_pow_pos (1074 - s); omega
theorem Dy.fin {s : Nat} {n : Int} {x : F} (h : Dy .f32 s n x) : fin32 x = true := by
 obtain ⟨b, rfl, _, h2, _⟩ := h
 obtain ⟨m, a, e, _⟩ := read_fin _ h2
 have e' : Ieee.single.read b = _ := e
 show (!(Ieee.single.read b).isInfinity) = true
 rw [e']; rfl
end Go.AM

namespace Go.AM
open Ieee
def Bd (E : Int) (x : F) : Prop := ∀ b, x = some b → ∃ s m e, double.read b = .number s m e ∧ (m ≠ 0 → e + (m.log2 : Int) ≤ E)
theorem Bd.none (E : Int) : Bd E none := fun _ h => by cases h
theorem Bd.mono {A B : Int} {x : F} (h : Bd A x) (hab : A ≤ B) : Bd B x := fun b hb => by
 obtain ⟨s, m, e, h1, h2⟩ := h b hb
 exact ⟨s, m, e, h1, fun h => by have := h2 h; omega⟩
def Lo (L : Int) (x : F) : Prop := ∀ b, x = some b → ∃ s m e, double.read b = .number s m e ∧ m ≠ 0 ∧ L ≤ e + (m.log2 : Int)
def Nn (E : Int) (x : F) : Prop := ∀ b, x = some b → ∃ s m e, double.read b = .number s m e ∧ (m ≠ 0 → e + (m.log2 : Int) ≤ E) ∧ (m ≠ 0 → s = false)
def bdB (E : Int) (b : Nat) : Bool := match double.read b with
 | .number _ m e => (m == 0) || decide (e + (m.log2 : Int) ≤ E)
 | _ => false
theorem bd_of {E : Int} {b : Nat} (h : bdB E b = true) : Bd E (some b) := fun c hc => by
 obtain rfl := Option.some.inj hc
 unfold bdB at h
 cases hd : double.read b with
 | number s m e =>
  rw [hd] at h
  refine ⟨s, m, e, rfl, fun h0 => ?_⟩
  simp only [Bool.or_eq_true, beq_iff_eq, decide_eq_true_eq] at h
  exact h.resolve_left h0
 | infinity s => rw [hd] at h; cases h
 | nan s t => rw [hd] at h; cases h
def loB (L : Int) (b : Nat) : Bool := match double.read b with
 | .number _ m e => (m != 0) && decide (L ≤ e + (m.log2 : Int))
 | _ => false
theorem lo_of {L : Int} {b : Nat} (h : loB L b = true) : Lo L (some b) := fun c hc => by
 obtain rfl := Option.some.inj hc
 unfold loB at h
 cases hd : double.read b with
 | number s m e =>
  rw [hd] at h
  simp only [Bool.and_eq_true, bne_iff_ne, decide_eq_true_eq] at h
  exact ⟨s, m, e, rfl, h.1, h.2⟩
 | infinity s => rw [hd] at h; cases h
 | nan s t => rw [hd] at h; cases h
theorem read_small {s : Bool} {m : Nat} {p E : Int} (h : m ≠ 0 → p + (m.log2 : Int) ≤ E) (h1 : -1022 ≤ E) (h2 : E ≤ 1000) : ∃ m' e', double.read (double.nearest s m p) = .number s m' e' ∧ (m' ≠ 0 → e' + (m'.log2 : Int) ≤ E + 1) := by
 have hbn : double.binade = 4503599627370496 := rfl
 have hl : double.leastPlace = -1074 := rfl
 have hi : double.infRung = 9218868437227405312 := rfl
 have hf : double.fractionBits = 52 := rfl
 have hz : ∀ r, r ≤ ((E + 1022).toNat + 2) * 4503599627370496 → ∃ m e, double.read (double.word s r) = .number s m e ∧ (m ≠ 0 → e + (m.log2 : Int) ≤ E + 1) := by
  intro r n2
  have hlt : r < 9218868437227405312 := by
   have : ((E + 1022).toNat + 2) * 4503599627370496 ≤ 2024 * 4503599627370496 := Nat.mul_le_mul_right _ (by omega)
   omega
  rw [readWord double s (r := r) (by rw [hi]; exact hlt)]
  split
  ·rename_i hr
   rw [hbn] at hr
   refine ⟨_, _, rfl, fun hr0 => ?_⟩
   have := log2_lt_of (n := 52) hr0 (by omega)
   rw [hl]; omega
  ·rename_i hr
   rw [hbn] at hr
   refine ⟨_, _, rfl, fun hr0 => ?_⟩
   have := log2_lt_of (n := 53) hr0 (by rw [hbn]; omega)
   rw [hl, hbn] at *
   have hd : r / 4503599627370496 ≤ (E + 1022).toNat + 2 := by
    rw [Nat.div_le_iff_le_mul (by decide)]; omega
   omega
 by_cases hm : m = 0
 ·subst hm
  have : double.nearest s 0 p = double.word s 0 := by unfold Format.nearest; rw [if_pos rfl]
  rw [this]; exact hz 0 (by omega)
 ·obtain ⟨r, n1, n2⟩ := nearest_small double s (m := m) (p := p) (K := (E + 1022).toNat) hm (by have := h hm; rw [hl, hf]; omega) (by
   rw [hbn, hi]
   have : ((E + 1022).toNat + 2) * 4503599627370496 ≤ 2024 * 4503599627370496 := Nat.mul_le_mul_right _ (by omega)
   omega)
  rw [hbn] at n2
  rw [n1]; exact hz r n2
theorem log2_mul_le {m n : Nat} (h : m * n ≠ 0) : (m * n).log2 ≤ m.log2 + n.log2 + 1 := by
 have hm : m ≠ 0 := fun e => h (by rw [e, Nat.zero_mul])
 have h1 : m < 2 ^ (m.log2 + 1) := Nat.lt_log2_self
 have h2 : n < 2 ^ (n.log2 + 1) := Nat.lt_log2_self
 have h3 : m * n < 2 ^ (m.log2 + 1 + (n.log2 + 1)) := by
  rw [Nat.pow_add]
  exact Nat.mul_lt_mul'' h1 h2
 have := log2_lt_of h h3
 omega
theorem Bd.mul {A B : Int} {x y : F} (hx : Bd A x) (hy : Bd B y) (h1 : -1000 ≤ A + B) (h2 : A + B ≤ 900) : Bd (A + B + 2) (fop .mul .f64 x y) := by
 intro c hc
 cases x with
 | none => cases hc
 | some a =>
  cases y with
  | none => cases hc
  | some b =>
   obtain ⟨s, m, i, r1, q1⟩ := hx a rfl
   obtain ⟨t, n, j, r2, q2⟩ := hy b rfl
   have e : fop .mul .f64 (some a) (some b) = some (double.nearest (s ^^ t) (m * n) (i + j)) := by
    show double.mul a b = _
    unfold Format.mul
    rw [r1, r2]; rfl
   rw [e] at hc
   obtain rfl := Option.some.inj hc
   obtain ⟨m', e', k1, k2⟩ := read_small (s := s ^^ t) (m := m * n) (p := i + j) (E := A + B + 1) (fun h => by
    have hm : m ≠ 0 := fun e => h (by rw [e, Nat.zero_mul])
    have hn : n ≠ 0 := fun e => h (by rw [e, Nat.mul_zero])
    have := log2_mul_le h
    have := q1 hm
    have := q2 hn
    omega) (by omega) (by omega)
   exact ⟨_, m', e', k1, fun h => by have := k2 h; omega⟩
theorem signed_le (s : Bool) (m k : Nat) : (signed s m k).natAbs = m * 2 ^ k := by
 unfold signed
 rw [Nat.shiftLeft_eq]
 cases s
 ·rw [if_neg (by decide)]; exact Int.natAbs_natCast _
 ·rw [if_pos rfl, Int.natAbs_neg]; exact Int.natAbs_natCast _
theorem shift_lt {m : Nat} {i base A : Int} (hb : base ≤ i) (h : m ≠ 0 → i + (m.log2 : Int) ≤ A) : m * 2 ^ (i - base).toNat < 2 ^ (A + 1 - base).toNat := by
 by_cases hm : m = 0
 ·subst hm; rw [Nat.zero_mul]; exact Nat.two_pow_pos _
 ·have h1 : m < 2 ^ (m.log2 + 1) := Nat.lt_log2_self
  have h2 : m * 2 ^ (i - base).toNat < 2 ^ (m.log2 + 1) * 2 ^ (i - base).toNat := Nat.mul_lt_mul_of_pos_right h1 (Nat.two_pow_pos _)
  rw [← Nat.pow_add] at h2
  have := h hm
  exact Nat.lt_of_lt_of_le h2 (Nat.pow_le_pow_right (by decide) (by omega))
theorem sum_bd {s t : Bool} {m n : Nat} {i j A : Int} (h1 : m ≠ 0 → i + (m.log2 : Int) ≤ A) (h2 : n ≠ 0 → j + (n.log2 : Int) ≤ A) :
  ∃ sg M, (Datum.number s m i).sum (.number t n j) = some (.number sg M (min i j)) ∧ (M ≠ 0 → min i j + (M.log2 : Int) ≤ A + 1) := by
 refine ⟨_, _, rfl, fun h0 => ?_⟩
 have a1 := shift_lt (base := min i j) (by omega) h1
 have a2 := shift_lt (base := min i j) (by omega) h2
 have b1 := signed_le s m (i - min i j).toNat
 have b2 := signed_le t n (j - min i j).toNat
 generalize hM : (signed s m (i - min i j).toNat + signed t n (j - min i j).toNat).natAbs = M at h0
 have hle : M ≤ m * 2 ^ (i - min i j).toNat + n * 2 ^ (j - min i j).toNat := by
  rw [← hM, ← b1, ← b2]; exact Int.natAbs_add_le _ _
 have hlt : M < 2 ^ ((A + 1 - min i j).toNat + 1) := by rw [Nat.pow_succ]; omega
 have hl := log2_lt_of h0 hlt
 have hmn : m ≠ 0 ∨ n ≠ 0 := by
  by_cases hm : m = 0
  ·right; intro hn; subst hm; subst hn; simp at hle; exact h0 hle
  ·exact .inl hm
 have : min i j ≤ A + 1 := by
  rcases hmn with h | h
  ·have := h1 h; omega
  ·have := h2 h; omega
 omega
theorem sum_write {A : Int} {a b : Nat} {sb : Bool} {x : F} {f : Nat → Nat → Option Nat} (hx : Bd A (some a)) (hy : Bd A (some b)) (h1 : -1000 ≤ A) (h2 : A ≤ 900)
  (hf : f a b = ((double.read a).sum (if sb then (double.read b).opposite else double.read b)).map double.write) (he : x = f a b) : Bd (A + 2) x := by
 obtain ⟨s, m, i, r1, q1⟩ := hx a rfl
 obtain ⟨t, n, j, r2, q2⟩ := hy b rfl
 rw [r1, r2] at hf
 intro c hc
 have key : ∃ t', (if sb then (Datum.number t n j).opposite else .number t n j) = .number t' n j := by
  cases sb
  ·exact ⟨t, rfl⟩
  ·exact ⟨!t, rfl⟩
 obtain ⟨t', et⟩ := key
 rw [et] at hf
 obtain ⟨sg, M, e, k⟩ := sum_bd (s := s) (t := t') (i := i) (j := j) q1 q2
 rw [e] at hf
 have e2 : x = some (double.nearest sg M (min i j)) := he.trans hf
 rw [e2] at hc
 obtain rfl := Option.some.inj hc
 obtain ⟨m', e', k1, k2⟩ := read_small (s := sg) (m := M) (p := min i j) (E := A + 1) k (by omega) (by omega)
 exact ⟨_, m', e', k1, fun h => by have := k2 h; omega⟩
theorem Bd.add {A : Int} {x y : F} (hx : Bd A x) (hy : Bd A y) (h1 : -1000 ≤ A) (h2 : A ≤ 900) : Bd (A + 2) (fop .add .f64 x y) := by
 cases x with
 | none => intro c hc; cases hc
 | some a =>
  cases y with
  | none => intro c hc; cases hc
  | some b => exact sum_write (sb := false) (f := double.add) hx hy h1 h2 rfl rfl
theorem Bd.sub {A : Int} {x y : F} (hx : Bd A x) (hy : Bd A y) (h1 : -1000 ≤ A) (h2 : A ≤ 900) : Bd (A + 2) (fop .sub .f64 x y) := by
 cases x with
 | none => intro c hc; cases hc
 | some a =>
  cases y with
  | none => intro c hc; cases hc
  | some b => exact sum_write (sb := true) (f := double.sub) hx hy h1 h2 rfl rfl
theorem quo_core {s t : Bool} {m n : Nat} {i j E : Int} (hn : n ≠ 0) (h : m ≠ 0 → (i + (m.log2 : Int)) - (j + (n.log2 : Int)) ≤ E) :
  ∃ v P, (Datum.number s m i).quotient 54 (.number t n j) = some (.number (s ^^ t) v P) ∧ (v ≠ 0 → P + (v.log2 : Int) ≤ E) := by
 unfold Datum.quotient
 simp only
 rw [if_neg hn]
 refine ⟨_, _, rfl, fun hv => ?_⟩
 by_cases hm : m = 0
 ·subst hm
  exfalso
  apply hv
  simp
 ·generalize hmore : 54 + n.log2 - m.log2 = more at hv
  have hX : n.log2 ≤ m.log2 + 1 + more := by omega
  have h1 : m < 2 ^ (m.log2 + 1) := Nat.lt_log2_self
  have h2 : m <<< more < 2 ^ (m.log2 + 1 + more) := by
   rw [Nat.shiftLeft_eq, Nat.pow_add]
   exact Nat.mul_lt_mul_of_pos_right h1 (Nat.two_pow_pos _)
  have h3 : m <<< more / n < 2 ^ (m.log2 + 1 + more - n.log2) := by
   rw [Nat.div_lt_iff_lt_mul (by omega)]
   refine Nat.lt_of_lt_of_le h2 ?_
   have h4 := Nat.log2_self_le hn
   calc 2 ^ (m.log2 + 1 + more) = 2 ^ (m.log2 + 1 + more - n.log2) * 2 ^ n.log2 := by rw [← Nat.pow_add]; congr 1; omega
    _ ≤ 2 ^ (m.log2 + 1 + more - n.log2) * n := Nat.mul_le_mul_left _ h4
  have hbit : (m <<< more % n != 0).toNat ≤ 1 := Bool.toNat_le _
  have h5 : 2 * (m <<< more / n) + (m <<< more % n != 0).toNat < 2 ^ (m.log2 + 1 + more - n.log2 + 1) := by rw [Nat.pow_succ]; omega
  have h6 := log2_lt_of hv h5
  have := h hm
  omega
theorem Bd.quo {A L : Int} {x y : F} (hx : Bd A x) (hy : Lo L y) (h1 : -1000 ≤ A - L) (h2 : A - L ≤ 900) : Bd (A - L + 1) (fop .quo .f64 x y) := by
 intro c hc
 cases x with
 | none => cases hc
 | some a =>
  cases y with
  | none => cases hc
  | some b =>
   obtain ⟨s, m, i, r1, q1⟩ := hx a rfl
   obtain ⟨t, n, j, r2, hn, q2⟩ := hy b rfl
   obtain ⟨v, P, e, k⟩ := quo_core (s := s) (t := t) (m := m) (n := n) (i := i) (j := j) (E := A - L) hn (fun h => by have := q1 h; omega)
   have e : fop .quo .f64 (some a) (some b) = some (double.nearest (s ^^ t) v P) := by
    show double.div a b = _
    unfold Format.div
    rw [r1, r2]
    show ((Datum.number s m i).quotient 54 (.number t n j)).map _ = _
    rw [e]; rfl
   rw [e] at hc
   obtain rfl := Option.some.inj hc
   obtain ⟨m', e', k1, k2⟩ := read_small (s := s ^^ t) (m := v) (p := P) (E := A - L) k (by omega) (by omega)
   exact ⟨_, m', e', k1, k2⟩
theorem quo_le {a b m n : Nat} {i j : Int} (r1 : double.read a = .number false m i) (r2 : double.read b = .number false n j) (h : AM.flt .f64 (some b) (some a) = false) : Bd 1 (fop .quo .f64 (some a) (some b)) := by
 have ho : (double.order b a == some .lt) = false := h
 unfold Format.order at ho
 rw [r1, r2] at ho
 simp only [Datum.order] at ho
 have s1 : ∀ (m k : Nat), signed false m k = ((m * 2 ^ k : Nat) : Int) := fun m k => by unfold signed; rw [if_neg (by decide), Nat.shiftLeft_eq]
 rw [s1, s1] at ho
 have hle : m * 2 ^ (i - min j i).toNat ≤ n * 2 ^ (j - min j i).toNat := by
  rcases Nat.lt_or_ge (n * 2 ^ (j - min j i).toNat) (m * 2 ^ (i - min j i).toNat) with hlt | hge
  ·exfalso
   have : compare ((n * 2 ^ (j - min j i).toNat : Nat) : Int) ((m * 2 ^ (i - min j i).toNat : Nat) : Int) = .lt := by rw [Int.compare_eq_lt]; exact Int.ofNat_lt.2 hlt
   rw [this] at ho
   cases ho
  ·exact hge
 intro c hc
 by_cases hn : n = 0
 ·subst hn
  rw [Nat.zero_mul] at hle
  have hm : m = 0 := by
   rcases Nat.mul_eq_zero.1 (Nat.le_zero.1 hle) with h | h
   ·exact h
   ·exact absurd h (Nat.ne_of_gt (Nat.two_pow_pos _))
  subst hm
  have e : fop .quo .f64 (some a) (some b) = none := by
   show double.div a b = _
   unfold Format.div
   rw [r1, r2]; rfl
  rw [e] at hc; cases hc
 ·obtain ⟨v, P, e, k⟩ := quo_core (s := false) (t := false) (m := m) (n := n) (i := i) (j := j) (E := 0) hn (fun hm => by
   have hp : m * 2 ^ (i - min j i).toNat ≠ 0 := Nat.mul_ne_zero hm (Nat.ne_of_gt (Nat.two_pow_pos _))
   have h1 : (m * 2 ^ (i - min j i).toNat).log2 ≤ (n * 2 ^ (j - min j i).toNat).log2 := by
    have hq : n * 2 ^ (j - min j i).toNat ≠ 0 := Nat.mul_ne_zero hn (Nat.ne_of_gt (Nat.two_pow_pos _))
    rw [Nat.le_log2 hq]
    exact Nat.le_trans (Nat.log2_self_le hp) hle
   rw [log2_mul_pow hm, log2_mul_pow hn] at h1
   omega)
  have e : fop .quo .f64 (some a) (some b) = some (double.nearest false v P) := by
   show double.div a b = _
   unfold Format.div
   rw [r1, r2]
   show ((Datum.number false m i).quotient 54 (.number false n j)).map _ = _
   rw [e]; rfl
  rw [e] at hc
  obtain rfl := Option.some.inj hc
  obtain ⟨m', e', k1, k2⟩ := read_small (s := false) (m := v) (p := P) (E := 0) k (by omega) (by omega)
  exact ⟨_, m', e', k1, k2⟩
theorem Bd.sqrt {A : Int} {x : F} (hx : Bd A x) (h1 : 0 ≤ A) (h2 : A ≤ 900) : Nn (A + 1) (fsqrt x) := by
 intro c hc
 cases x with
 | none => cases hc
 | some a =>
  obtain ⟨s, m, i, r1, q1⟩ := hx a rfl
  have e0 : fsqrt (some a) = ((Datum.number s m i).root 54).map double.write := by
   show double.sqrt a = _
   unfold Format.sqrt
   rw [r1]; rfl
  rw [e0] at hc
  unfold Datum.root at hc
  dsimp only at hc
  by_cases hm : m = 0
  ·rw [if_pos hm] at hc
   obtain rfl := Option.some.inj hc
   subst hm
   obtain ⟨m', e', k1, k2⟩ := read_small (s := s) (m := 0) (p := i) (E := A) (fun h => absurd rfl h) (by omega) (by omega)
   have z : double.nearest s 0 i = double.word s 0 := by unfold Format.nearest; rw [if_pos rfl]
   have k3 : double.read (double.word s 0) = .number s 0 (-1074) := by cases s <;> rfl
   refine ⟨s, 0, -1074, ?_, fun h => absurd rfl h, fun h => absurd rfl h⟩
   show double.read (double.nearest s 0 i) = _
   rw [z, k3]
  ·rw [if_neg hm] at hc
   cases s with
   | true => rw [if_pos rfl] at hc; cases hc
   | false =>
    rw [if_neg (by decide)] at hc
    generalize hmore : 2 * 54 - m.log2 + ((i - ((2 * 54 - m.log2 : Nat) : Int)) % 2).toNat = more at hc
    have hln : (m <<< more).log2 = m.log2 + more := by rw [Nat.shiftLeft_eq, log2_mul_pow hm]
    have hwh := rootFrom_lt (m <<< more) ((m <<< more).log2 / 2 + 1) 0
    generalize Datum.rootFrom (m <<< more) ((m <<< more).log2 / 2 + 1) 0 = W at hwh hc
    rw [hln] at hwh
    have hbit : (W * W != m <<< more).toNat ≤ 1 := Bool.toNat_le _
    generalize hv : 2 * W + (W * W != m <<< more).toNat = v at hc
    have hvl : v < 2 ^ ((m.log2 + more) / 2 + 1 + 1) := by rw [Nat.pow_succ]; omega
    obtain rfl := Option.some.inj hc
    obtain ⟨m', e', k1, k2⟩ := read_small (s := false) (m := v) (p := (i - (more : Int)) / 2 - 1) (E := A) (fun h0 => by
     have := log2_lt_of h0 hvl
     have := q1 hm
     omega) (by omega) (by omega)
    exact ⟨false, m', e', k1, k2, fun _ => rfl⟩
theorem word_inj {s : Bool} {r X : Nat} (hr : r < double.signWeight) (hX : X < double.signWeight) (h : double.word s r = double.word s X) : r = X := by
 have q1 := (wneg_word double s hr).2
 have q2 := (wneg_word double s hX).2
 rw [h] at q1
 exact q1.symm.trans q2
theorem cut_big {s : Bool} {m : Nat} (hm : m ≠ 0) : 4503599627370496 ≤ Toward.even.cut s (m <<< (52 - m.log2)) (m.log2 - 52) := by
 have h3 := Nat.log2_self_le hm
 have h52 : (4503599627370496 : Nat) = 2 ^ 52 := by decide
 rw [h52]
 rcases Nat.le_total m.log2 52 with hle | hle
 ·have e3 : m.log2 - 52 = 0 := by omega
  rw [e3, Nat.shiftLeft_eq]
  have hc := cut_mul s (m * 2 ^ (52 - m.log2)) 0
  rw [Nat.pow_zero, Nat.mul_one] at hc
  rw [hc]
  have := Nat.mul_le_mul_right (2 ^ (52 - m.log2)) h3
  rw [← Nat.pow_add, show m.log2 + (52 - m.log2) = 52 from by omega] at this
  exact this
 ·have e3 : 52 - m.log2 = 0 := by omega
  rw [e3, Nat.shiftLeft_zero]
  unfold Toward.cut
  dsimp only
  rw [show min (m.log2 - 52) (m.log2 + 2) = m.log2 - 52 from by omega, Nat.one_shiftLeft]
  refine Nat.le_trans ?_ (Nat.le_add_right _ _)
  rw [Nat.le_div_iff_mul_le (Nat.two_pow_pos _), ← Nat.pow_add]
  exact Nat.le_trans (Nat.pow_le_pow_right (by decide) (by omega)) h3
theorem near_big {s : Bool} {m : Nat} {p : Int} (hm : m ≠ 0) (h1 : 0 ≤ p + (m.log2 : Int)) : ∃ X, double.nearest s m p = double.word s X ∧ 1023 * 4503599627370496 ≤ X ∧ X ≤ 9218868437227405312 := by
 have hbn : double.binade = 4503599627370496 := rfl
 have hl : double.leastPlace = -1074 := rfl
 have hi : double.infRung = 9218868437227405312 := rfl
 have hf : double.fractionBits = 52 := rfl
 have hlast : max (p + (m.log2 : Int) - ((52 : Nat) : Int)) (-1074) = p + (m.log2 : Int) - 52 := by omega
 have e1 : (p - (p + (m.log2 : Int) - 52)).toNat = 52 - m.log2 := by omega
 have e2 : (p + (m.log2 : Int) - 52 - p).toNat = m.log2 - 52 := by omega
 have hk := cut_big (s := s) hm
 have hA : 1022 ≤ (p + (m.log2 : Int) - 52 - -1074).toNat := by omega
 generalize hkk : Toward.even.cut s (m <<< (52 - m.log2)) (m.log2 - 52) = kept at hk
 generalize hAA : (p + (m.log2 : Int) - 52 - -1074).toNat = A at hA
 refine ⟨min (A * 4503599627370496 + kept) 9218868437227405312, ?_, ?_, Nat.min_le_right _ _⟩
 ·unfold Format.nearest
  rw [if_neg hm]
  simp only [hf, hl, hbn, hi]
  rw [hlast, e1, e2, hkk, hAA]
 ·have hAm : 1022 * 4503599627370496 ≤ A * 4503599627370496 := Nat.mul_le_mul_right _ hA
  exact Nat.le_min.2 ⟨Nat.le_trans (show 1023 * 4503599627370496 ≤ 1022 * 4503599627370496 + 4503599627370496 by decide) (Nat.add_le_add hAm hk), by decide⟩
theorem read_big {s : Bool} {m : Nat} {p : Int} (hm : m ≠ 0) (h1 : 0 ≤ p + (m.log2 : Int)) (h2 : p + (m.log2 : Int) ≤ 900) : ∃ m' e', double.read (double.nearest s m p) = .number s m' e' ∧ m' ≠ 0 ∧ 0 ≤ e' + (m'.log2 : Int) := by
 have hbn : double.binade = 4503599627370496 := rfl
 have hl : double.leastPlace = -1074 := rfl
 have hi : double.infRung = 9218868437227405312 := rfl
 have hf : double.fractionBits = 52 := rfl
 have hsw : double.signWeight = 9223372036854775808 := rfl
 have hKK : ((p + (m.log2 : Int) + 1022).toNat + 2) * 4503599627370496 ≤ 2024 * 4503599627370496 := Nat.mul_le_mul_right _ (by omega)
 have hK : ((p + (m.log2 : Int) + 1022).toNat + 2) * double.binade ≤ double.infRung := by
  rw [hbn, hi]
  exact Nat.le_trans hKK (by decide)
 have hK2 : p + (m.log2 : Int) ≤ double.leastPlace + (double.fractionBits : Int) + ((p + (m.log2 : Int) + 1022).toNat : Int) := by rw [hl, hf]; omega
 obtain ⟨X, n3, n4, n5⟩ := near_big (s := s) hm h1
 obtain ⟨r, n1, n2⟩ := nearest_small double s (m := m) (p := p) (K := (p + (m.log2 : Int) + 1022).toNat) hm hK2 hK
 rw [hbn] at n2
 have hlt : r < 9218868437227405312 := Nat.lt_of_le_of_lt (Nat.le_trans n2 hKK) (by decide)
 have e : r = X := word_inj (s := s) (by rw [hsw]; exact Nat.lt_trans hlt (by decide)) (by rw [hsw]; exact Nat.lt_of_le_of_lt n5 (by decide)) (n1.symm.trans n3)
 subst e
 rw [n3]
 clear n3 n1
 rw [readWord double s (r := r) (by rw [hi]; exact hlt), if_neg (by rw [hbn]; omega)]
 have hlog : 52 ≤ (4503599627370496 + r % 4503599627370496).log2 := by
  rw [Nat.le_log2 (by omega)]
  have h52 : (2 : Nat) ^ 52 = 4503599627370496 := by decide
  rw [h52]
  omega
 have hd : 1023 ≤ r / 4503599627370496 := by rw [Nat.le_div_iff_mul_le (by decide)]; omega
 rw [hl, hbn]
 exact ⟨_, _, rfl, by omega, by omega⟩
theorem one_add {A : Int} {x : F} (hx : Nn A x) (h1 : 0 ≤ A) (h2 : A ≤ 800) : Lo 0 (fop .add .f64 (some 4607182418800017408) x) := by
 intro c hc
 cases x with
 | none => cases hc
 | some b =>
  obtain ⟨s, m, e, r2, q1, q2⟩ := hx b rfl
  have r1 : double.read 4607182418800017408 = .number false 4503599627370496 (-52) := by decide +kernel
  have s1 : ∀ (m k : Nat), signed false m k = ((m * 2 ^ k : Nat) : Int) := fun m k => by unfold signed; rw [if_neg (by decide), Nat.shiftLeft_eq]
  have s2 : signed s m (e - min (-52) e).toNat = ((m * 2 ^ (e - min (-52) e).toNat : Nat) : Int) := by
   by_cases hm : m = 0
   ·subst hm
    have := signed_le s 0 (e - min (-52) e).toNat
    rw [Nat.zero_mul] at this ⊢
    omega
   ·rw [q2 hm, s1]
  have hp : 0 < 4503599627370496 * 2 ^ (-52 - min (-52) e).toNat := Nat.mul_pos (by decide) (Nat.two_pow_pos _)
  have es : (Datum.number false 4503599627370496 (-52)).sum (.number s m e) = some (.number false (4503599627370496 * 2 ^ (-52 - min (-52) e).toNat + m * 2 ^ (e - min (-52) e).toNat) (min (-52) e)) := by
   simp only [Datum.sum]
   rw [s1, s2, if_neg (by omega), decide_eq_false (by omega)]
   congr 2
  have hlow : (4503599627370496 * 2 ^ (-52 - min (-52) e).toNat).log2 = 52 + (-52 - min (-52) e).toNat := by
   rw [log2_mul_pow (by decide)]
   rw [show (4503599627370496 : Nat).log2 = 52 from by decide +kernel]
  generalize hM : 4503599627370496 * 2 ^ (-52 - min (-52) e).toNat + m * 2 ^ (e - min (-52) e).toNat = M at es
  have hM0 : M ≠ 0 := by omega
  have hlo : 52 + (-52 - min (-52) e).toNat ≤ M.log2 := by
   rw [← hlow, Nat.le_log2 hM0]
   exact Nat.le_trans (Nat.log2_self_le (by omega)) (by omega)
  have hhi := (sum_bd (s := false) (t := s) (m := 4503599627370496) (n := m) (i := -52) (j := e) (A := A) (fun _ => by rw [show (4503599627370496 : Nat).log2 = 52 from by decide +kernel]; omega) q1)
  obtain ⟨sg, M', f1, f2⟩ := hhi
  rw [es] at f1
  have f1 := Option.some.inj f1
  injection f1 with _ f3 _
  subst f3
  have hup := f2 hM0
  have ew : fop .add .f64 (some 4607182418800017408) (some b) = some (double.nearest false M (min (-52) e)) := by
   show double.add 4607182418800017408 b = _
   unfold Format.add
   rw [r1, r2, es]; rfl
  rw [ew] at hc
  obtain rfl := Option.some.inj hc
  obtain ⟨m', e', k1, k2, k3⟩ := read_big (s := false) (m := M) (p := min (-52) e) hM0 (by omega) (by omega)
  exact ⟨_, m', e', k1, k2, k3⟩
theorem Bd.neg {A : Int} {x : F} (hx : Bd A x) (hf : FOk .f64 x) : Bd A (fneg .f64 x) := by
 intro c hc
 cases x with
 | none => cases hc
 | some b =>
  obtain ⟨s, m, e, r1, q1⟩ := hx b rfl
  obtain rfl := Option.some.inj hc
  have hb : b < 2 ^ (63 + 1) := hf.some.1
  have hw : (b ^^^ 2 ^ 63) % 2 ^ 63 = b % 2 ^ 63 := by
   apply Nat.eq_of_testBit_eq
   intro k
   rw [Nat.testBit_mod_two_pow, Nat.testBit_mod_two_pow, Nat.testBit_xor, Nat.testBit_two_pow]
   by_cases hk : k < 63
   ·simp [hk, show ¬ 63 = k from by omega]
   ·simp [hk]
  have e0 : Op.negFloat .f64 b = b ^^^ 2 ^ 63 := rfl
  rw [e0]
  unfold Format.read at r1 ⊢
  have hs : double.signWeight = 2 ^ 63 := rfl
  simp only [hs] at r1 ⊢
  rw [hw]
  by_cases c1 : b % 2 ^ 63 < double.binade
  ·rw [if_pos c1] at r1 ⊢
   injection r1 with _ a1 a2
   exact ⟨_, _, _, rfl, by rw [a1, a2]; exact q1⟩
  ·rw [if_neg c1] at r1 ⊢
   by_cases c2 : b % 2 ^ 63 < double.infRung
   ·rw [if_pos c2] at r1 ⊢
    injection r1 with _ a1 a2
    exact ⟨_, _, _, rfl, by rw [a1, a2]; exact q1⟩
   ·rw [if_neg c2] at r1
    split at r1 <;> cases r1
theorem narrow_bd {x : F} (h : Bd 126 x) : ∃ z, fnarrow x = some z := by
 cases x with
 | none => exact ⟨_, rfl⟩
 | some c =>
  obtain ⟨s, m, e, s1, s2⟩ := h c rfl
  have hfn : fnarrow (some c) = if (single.read (single.write (.number s m e))).isInfinity then none else some (some (single.write (.number s m e))) := by
   have : FloatKind.f64.decode c = .number s m e := s1
   simp only [fnarrow]
   rw [this]; rfl
  rw [hfn]
  have hnot : (single.read (single.write (.number s m e))).isInfinity = false := by
   show (single.read (single.nearest s m e)).isInfinity = false
   have hbn : single.binade = 8388608 := rfl
   have hi : single.infRung = 2139095040 := rfl
   have hz : ∀ r, r < 2139095040 → (single.read (single.word s r)).isInfinity = false := by
    intro r hr
    rw [readWord single s (r := r) (by rw [hi]; exact hr)]
    split <;> rfl
   by_cases hm0 : m = 0
   ·subst hm0
    have : single.nearest s 0 e = single.word s 0 := by unfold Format.nearest; rw [if_pos rfl]
    rw [this]; exact hz 0 (by decide)
   ·obtain ⟨r, n1, n2⟩ := nearest_small single s (m := m) (p := e) (K := 252) hm0 (by
     have hl : single.leastPlace = -149 := rfl
     have hf : single.fractionBits = 23 := rfl
     have := s2 hm0
     rw [hl, hf]; omega) (by rw [hbn, hi]; decide)
    rw [hbn] at n2
    rw [n1]; exact hz r (by omega)
  rw [hnot]
  exact ⟨_, rfl⟩
theorem abs_read {b : Nat} (h : FOk .f32 (some b)) (hf : fin32 (some b) = true) : ∃ a m e, fabs (fwiden (some b)) = some a ∧ double.read a = .number false m e := by
 have hn := h.some.2
 have hfab : fabs (fwiden (some b)) = some (double.write (single.read b) % 9223372036854775808) := rfl
 refine ⟨double.write (single.read b) % 9223372036854775808, ?_⟩
 rcases read_cases (f := single) (fmt_ok .f32) hn with ⟨g1, g2⟩ | ⟨g1, g2⟩
 ·obtain ⟨m, a, e1, e2⟩ := read_fin single g1
  by_cases h0 : m = 0
  ·subst h0
   have e3 : double.write (single.read b) % 9223372036854775808 = 0 := by
    rw [e1]
    show double.nearest (wneg single b) 0 _ % _ = 0
    unfold Format.nearest
    rw [if_pos rfl]
    cases wneg single b <;> rfl
   exact ⟨_, _, hfab, by rw [e3]; rfl⟩
  ·obtain ⟨k1, k2, k3⟩ := single_num e1
   obtain ⟨R, r1, r2, r3, r4⟩ := widen_num (s := wneg single b) k1 k2 k3 h0
   have e3 : double.write (single.read b) % 9223372036854775808 = R := by
    rw [e1]
    show double.nearest _ _ _ % _ = R
    rw [r1]
    have := (wneg_word double (wneg single b) (r := R) (Nat.lt_trans r2 (double.infRung_lt))).2
    exact this
   have e4 := r4 false
   rw [word_false] at e4
   exact ⟨_, _, hfab, by rw [e3]; exact e4⟩
 ·exfalso
  have : fin32 (some b) = false := by
   unfold fin32
   show (!(single.read b).isInfinity) = false
   rw [g2]; rfl
  rw [this] at hf; cases hf
theorem widen_narrow {c : F} (h : FOk .f32 c) : fnarrow (fwiden c) = some c := by
 cases c with
 | none => rfl
 | some b =>
  have hn := h.some.2
  have hw : b < 2 ^ single.width := h.some.1
  have eta : single.word (wneg single b) (wrung single b) = b := by
   rw [width_weight] at hw
   exact (word_eta single hw).symm
  have hfw : fwiden (some b) = some (double.write (single.read b)) := rfl
  rw [hfw]
  have key : ∀ {R : Nat} {d : Datum}, double.read R = d → (∀ s t, d ≠ .nan s t) → fnarrow (some R) = match d with
    | .nan _ _ => some none
    | .infinity s => some (some (single.write (.infinity s)))
    | .number s m e => if (single.read (single.write (.number s m e))).isInfinity then none else some (some (single.write (.number s m e))) := by
   intro R d hd _
   have : FloatKind.f64.decode R = d := hd
   simp only [fnarrow]
   rw [this]; rfl
  rcases read_cases (f := single) (fmt_ok .f32) hn with ⟨g1, g2⟩ | ⟨g1, g2⟩
  ·obtain ⟨m, a, e1, e2⟩ := read_fin single g1
   have hfin : ∀ {M : Nat} {P : Int} {bb cc : Nat}, P + (bb : Int) = single.leastPlace + (cc : Int) → M * 2 ^ cc = rval single (wrung single b) * 2 ^ bb →
     (if (single.read (single.write (.number (wneg single b) M P))).isInfinity then none else some (some (single.write (.number (wneg single b) M P)))) = some (some b) := by
    intro M P bb cc h1 h2
    have hne : single.write (.number (wneg single b) M P) = b := by
     show single.nearest (wneg single b) M P = _
     rw [nearest_exact single _ (Nat.le_of_lt g1) h1 h2, eta]
    rw [hne]
    obtain ⟨m2, a2, e3, _⟩ := read_fin single (w := b) g1
    rw [e3]
    rfl
   by_cases h0 : m = 0
   ·subst h0
    have e3 : double.write (single.read b) = double.word (wneg single b) 0 := by
     rw [e1]
     show double.nearest (wneg single b) 0 _ = _
     unfold Format.nearest
     rw [if_pos rfl]
    rw [e3, key (d := .number (wneg single b) 0 (-1074)) (by cases wneg single b <;> rfl) (by intro s t h; cases h)]
    rw [Nat.zero_mul] at e2
    obtain ⟨bb, hbb⟩ : ∃ bb : Nat, (-1074 : Int) + (bb : Int) = single.leastPlace + ((0 : Nat) : Int) := ⟨925, rfl⟩
    exact hfin (bb := bb) (cc := 0) hbb (by rw [← e2]; simp)
   ·obtain ⟨k1, k2, k3⟩ := single_num e1
    obtain ⟨R, r1, r2, r3, r4⟩ := widen_num (s := wneg single b) k1 k2 k3 h0
    have e3 : double.write (single.read b) = double.word (wneg single b) R := by
     rw [e1]
     show double.nearest _ _ _ = _
     rw [r1]
    have hlog : m.log2 < 24 := log2_lt_of h0 k1
    rw [e3, key (r4 (wneg single b)) (by intro s t h; cases h)]
    refine hfin (bb := 52 - m.log2) (cc := a) (by omega) ?_
    rw [← e2, Nat.mul_assoc, Nat.mul_assoc, Nat.mul_comm (2 ^ (52 - m.log2))]
  ·have e3 : double.write (single.read b) = double.word (wneg single b) double.infRung := by
    exact congrArg double.write g2
   rw [e3, key (d := .infinity (wneg single b)) (by cases wneg single b <;> rfl) (by intro s t h; cases h)]
   show some (some (single.word (wneg single b) single.infRung)) = some (some b)
   rw [← g1, eta]
end Go.AM

namespace Go.AM
abbrev sFc (l : List F) : AV := AV.sl l.length (l.map AV.f32)
section
variable {P : Program} {N : Nat} {all : Array Oper} {o : Oper} {rest : List Oper} {τ : List (Nat × AV)} {Γ : List Ob} {Q : PQ} {r : AV}
theorem zl {d : Nat} (hl : LOp P o τ r) (h : ROps P N all rest ((d, r) :: τ) Γ Q) (hw : wantT all τ o = some true := by exact rfl) (hd : o.dst = some d := by exact rfl) (hN : Nat.blt d (N / 2) = true := by exact rfl) : ROps P N all (o :: rest) τ Γ Q := ROps.l hw hd hN hl h
theorem zm {d : Nat} {x : Operand} (h : ROps P N all rest ((d, r) :: τ) Γ Q) (hw : wantT all τ o = some true := by exact rfl) (hd : o.dst = some d := by exact rfl) (hN : Nat.blt d (N / 2) = true := by exact rfl) (ho : o.op = .move x := by exact rfl) (hx : ev τ x = r := by exact rfl) : ROps P N all (o :: rest) τ Γ Q := ROps.l hw hd hN (LOp.move ho hx) h
theorem za {d : Nat} {x : Operand} (h : ROps P N all rest ((d, r) :: τ) Γ Q) (hw : wantT all τ o = some true := by exact rfl) (hd : o.dst = some d := by exact rfl) (hN : Nat.blt d (N / 2) = true := by exact rfl) (ho : o.op = .assign x := by exact rfl) (hx : ev τ x = r := by exact rfl) : ROps P N all (o :: rest) τ Γ Q := ROps.l hw hd hN (LOp.assign ho hx) h
theorem zQ {id : Nat} {l : List Oper} {y : Code} (h : ROps P N l.toArray l τ Γ (thenQ (fun τ Γ => RunC P N y τ Γ Q) Q)) : RunC P N (.seq (.region id l.toArray false) y) τ Γ Q := RunC.seq (RunC.regionW h)
theorem zN (h : Q .normal τ Γ) : ROps P N all [] τ Γ Q := ROps.nil h
theorem aR {a : AV} : ALe a a := ALe.refl a
end
end Go.AM
