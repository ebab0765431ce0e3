/- The abstract layer, part 2. -/
import Derived.Test.YtcjbfpoaidjpaaaGreatDoorAm1
set_option linter.unusedVariables false
namespace Go.AM
open Ieee
def lpn (k : FloatKind) : Nat := match k with | .f32 => 149 | .f64 => 1074
def dgn (k : FloatKind) : Nat := match k with | .f32 => 24 | .f64 => 53
def topn (k : FloatKind) : Nat := match k with | .f32 => 277 | .f64 => 2098
theorem lpn_eq (k : FloatKind) : k.format.leastPlace = -((lpn k : Nat) : Int) := by cases k <;> decide
theorem dgn_eq (k : FloatKind) : 2 ^ dgn k = 2 * k.format.binade := by cases k <;> decide
theorem topn_eq (k : FloatKind) : rval k.format k.format.infRung = 2 ^ topn k := by cases k <;> decide +kernel
theorem dg_top (k : FloatKind) : dgn k + lpn k < topn k := by cases k <;> decide
theorem rung_high (f : Format) {e q : Nat} (h1 : f.binade ≤ q) (h2 : q < 2 * f.binade) : rval f ((e + 1) * f.binade + (q - f.binade)) = q * 2 ^ e := by
 have hB := binade_pos f
 have hlt : q - f.binade < f.binade := by omega
 have hge : ¬ (e + 1) * f.binade + (q - f.binade) < f.binade := by
  rw [Nat.add_mul, Nat.one_mul]; omega
 unfold rval
 rw [if_neg hge]
 have m1 : ((e + 1) * f.binade + (q - f.binade)) % f.binade = q - f.binade := by
  rw [Nat.add_comm, Nat.add_mul_mod_self_right, Nat.mod_eq_of_lt hlt]
 have d1 : ((e + 1) * f.binade + (q - f.binade)) / f.binade = e + 1 := by
  rw [Nat.add_comm, Nat.add_mul_div_right _ _ hB, Nat.div_eq_of_lt hlt, Nat.zero_add]
 rw [m1, d1, show f.binade + (q - f.binade) = q from by omega, Nat.add_sub_cancel]
theorem rep (f : Format) : ∀ (t m : Nat), m < 2 * f.binade → ∃ r, rval f r = m * 2 ^ t
 | t, m, h => by
  by_cases h1 : f.binade ≤ m
  ·exact ⟨_, rung_high f h1 h⟩
  ·match t with
   | 0 => exact ⟨m, by unfold rval; rw [if_pos (by omega)]; simp⟩
   | t + 1 =>
    obtain ⟨r, hr⟩ := rep f t (2 * m) (by omega)
    exact ⟨r, by rw [hr, Nat.pow_succ, Nat.mul_comm 2 m, Nat.mul_assoc, Nat.mul_comm 2]⟩
theorem lt_inf {k : FloatKind} {r : Nat} (h : rval k.format r < 2 ^ topn k) : r < k.format.infRung := by
 rcases Nat.lt_or_ge r k.format.infRung with h1 | h1
 ·exact h1
 ·have := rval_le k.format h1
  rw [topn_eq] at this; omega
def fval (k : FloatKind) (b : Nat) : Int := sval (wneg k.format b) (rval k.format (wrung k.format b))
def Dy (k : FloatKind) (s : Nat) (n : Int) (x : F) : Prop := ∃ b, x = some b ∧ b < 2 ^ k.format.width ∧ wrung k.format b < k.format.infRung ∧ s ≤ lpn k ∧ fval k b = n * ((2 ^ (lpn k - s) : Nat) : Int)
theorem sval_natAbs (s : Bool) (v : Nat) : (sval s v).natAbs = v := by cases s <;> simp [sval]
theorem sval_of {n : Int} {sg : Bool} (h : n ≠ 0 → sg = decide (n < 0)) : sval sg n.natAbs = n := by
 by_cases hn : n = 0
 ·subst hn; cases sg <;> rfl
 ·rw [h hn]
  by_cases h0 : n < 0
  ·rw [decide_eq_true h0]; simp only [sval, if_true]; omega
  ·rw [decide_eq_false h0]; simp only [sval]; simp; omega
theorem Dy.word {k : FloatKind} {s : Nat} {n : Int} {sg : Bool} {r : Nat} (hs : s ≤ lpn k) (hr : rval k.format r = n.natAbs * 2 ^ (lpn k - s)) (hn : n.natAbs < 2 ^ dgn k) (h : n ≠ 0 → sg = decide (n < 0)) : Dy k s n (some (k.format.word sg r)) := by
 have hlt : r < k.format.infRung := by
  refine lt_inf ?_
  rw [hr]
  refine Nat.lt_of_lt_of_le (Nat.mul_lt_mul_of_pos_right hn (Nat.two_pow_pos _)) ?_
  rw [← Nat.pow_add]
  exact Nat.pow_le_pow_right (by decide) (by have := dg_top k; omega)
 have hi := k.format.infRung_lt
 obtain ⟨k1, k2⟩ := wneg_word k.format sg (r := r) (by omega)
 refine ⟨_, rfl, k.format.word_lt sg (by omega), by rw [k2]; exact hlt, hs, ?_⟩
 unfold fval
 rw [k1, k2, hr]
 have := sval_of h
 unfold sval at this ⊢
 cases sg
 ·simp at this ⊢; rw [this]
 ·simp at this ⊢; rw [← Int.neg_mul, this]
theorem sval_signed (s : Bool) (m a c : Nat) (hc : c ≤ a) : sval s (m * 2 ^ a) = signed s m (a - c) * ((2 ^ c : Nat) : Int) := by
 have : m * 2 ^ a = (m <<< (a - c)) * 2 ^ c := by
  rw [Nat.shiftLeft_eq, Nat.mul_assoc, ← Nat.pow_add]
  congr 2; omega
 unfold sval signed
 rw [this]
 cases s <;> simp [Int.neg_mul]
theorem sum_num (f : Format) {s t : Bool} {m n a b r : Nat} (hr : r ≤ f.infRung) (h : rval f r = (sval s (m * 2 ^ a) + sval t (n * 2 ^ b)).natAbs) :
  ∃ sg, (sval s (m * 2 ^ a) + sval t (n * 2 ^ b) ≠ 0 → sg = decide (sval s (m * 2 ^ a) + sval t (n * 2 ^ b) < 0)) ∧ (Datum.sum (.number s m (f.leastPlace + a)) (.number t n (f.leastPlace + b))).map f.write = some (f.word sg r) := by
 simp only [Datum.sum]
 have e1 : (f.leastPlace + (a : Int) - min (f.leastPlace + (a : Int)) (f.leastPlace + (b : Int))).toNat = a - min a b := by omega
 have e2 : (f.leastPlace + (b : Int) - min (f.leastPlace + (a : Int)) (f.leastPlace + (b : Int))).toNat = b - min a b := by omega
 have e3 : min (f.leastPlace + (a : Int)) (f.leastPlace + (b : Int)) = f.leastPlace + ((min a b : Nat) : Int) := by omega
 rw [e1, e2, e3]
 rw [sval_signed s m a (min a b) (Nat.min_le_left _ _), sval_signed t n b (min a b) (Nat.min_le_right _ _), ← Int.add_mul] at h ⊢
 generalize signed s m (a - min a b) + signed t n (b - min a b) = total at h ⊢
 have hp := Nat.two_pow_pos (min a b)
 have hpi : (0 : Int) < ((2 ^ min a b : Nat) : Int) := by omega
 refine ⟨if total = 0 then s && t else decide (total < 0), fun hne => ?_, ?_⟩
 ·have h0 : total ≠ 0 := fun e => hne (by rw [e, Int.zero_mul])
  rw [if_neg h0]
  by_cases hl : total < 0
  ·rw [decide_eq_true hl, decide_eq_true (Int.mul_neg_of_neg_of_pos hl hpi)]
  ·rw [decide_eq_false hl, decide_eq_false]
   have := Int.mul_nonneg (show (0 : Int) ≤ total by omega) (show (0 : Int) ≤ ((2 ^ min a b : Nat) : Int) by omega)
   omega
 ·simp only [Option.map_some]
  congr 1
  refine nearest_exact f _ hr (b := 0) (c := min a b) (by omega) ?_
  rw [h, Int.natAbs_mul]; simp
theorem mul_num (f : Format) {L : Nat} (hL : f.leastPlace = -(L : Int)) {s t : Bool} {m n a b r : Nat} (hr : r ≤ f.infRung) (h : rval f r * 2 ^ L = (m * 2 ^ a) * (n * 2 ^ b)) :
  (Datum.product (.number s m (f.leastPlace + a)) (.number t n (f.leastPlace + b))).map f.write = some (f.word (s ^^ t) r) := by
 simp only [Datum.product, Option.map_some]
 congr 1
 refine nearest_exact f _ hr (b := L) (c := a + b) (by rw [hL]; omega) ?_
 rw [h, Nat.pow_add]
 rw [Nat.mul_mul_mul_comm]
theorem Dy.fok {k : FloatKind} {s : Nat} {n : Int} {x : F} (h : Dy k s n x) : FOk k x := by
 obtain ⟨b, rfl, h1, h2, _⟩ := h
 obtain ⟨m, a, e, _⟩ := read_fin k.format h2
 exact ⟨b, rfl, h1, by rw [e]; rfl⟩
theorem Dy.add {k : FloatKind} {s : Nat} {n m : Int} {x y : F} (hx : Dy k s n x) (hy : Dy k s m y) (h : (n + m).natAbs < 2 ^ dgn k) : Dy k s (n + m) (fop .add k x y) := by
 obtain ⟨b, rfl, h1, h2, hs, h3⟩ := hx
 obtain ⟨c, rfl, g1, g2, _, g3⟩ := hy
 obtain ⟨p, a, e1, e2⟩ := read_fin k.format h2
 obtain ⟨q, d, e3, e4⟩ := read_fin k.format g2
 unfold fval at h3 g3
 rw [← e2] at h3
 rw [← e4] at g3
 obtain ⟨r, hr⟩ := rep k.format (lpn k - s) (n + m).natAbs (by rw [← dgn_eq]; exact h)
 have hsum : sval (wneg k.format b) (p * 2 ^ a) + sval (wneg k.format c) (q * 2 ^ d) = (n + m) * ((2 ^ (lpn k - s) : Nat) : Int) := by rw [h3, g3, Int.add_mul]
 have hlt : r < k.format.infRung := by
  refine lt_inf ?_
  rw [hr]
  refine Nat.lt_of_lt_of_le (Nat.mul_lt_mul_of_pos_right h (Nat.two_pow_pos _)) ?_
  rw [← Nat.pow_add]
  exact Nat.pow_le_pow_right (by decide) (by have := dg_top k; omega)
 obtain ⟨sg, k1, k2⟩ := sum_num k.format (s := wneg k.format b) (t := wneg k.format c) (m := p) (n := q) (a := a) (b := d) (r := r) (by omega) (by rw [hsum, hr, Int.natAbs_mul]; simp)
 have e : fop .add k (some b) (some c) = some (k.format.word sg r) := by
  show k.format.add b c = _
  unfold Format.add
  rw [e1, e3]; exact k2
 rw [e]
 refine Dy.word hs hr h fun hne => ?_
 have hp : (0 : Int) < ((2 ^ (lpn k - s) : Nat) : Int) := by have := Nat.two_pow_pos (lpn k - s); omega
 rw [hsum] at k1
 rw [k1 (Int.mul_ne_zero hne (by omega))]
 by_cases hl : n + m < 0
 ·rw [decide_eq_true hl, decide_eq_true (Int.mul_neg_of_neg_of_pos hl hp)]
 ·rw [decide_eq_false hl, decide_eq_false]
  have := Int.mul_nonneg (show (0 : Int) ≤ n + m by omega) (show (0 : Int) ≤ ((2 ^ (lpn k - s) : Nat) : Int) by omega)
  omega
theorem sval_not (s : Bool) (v : Nat) : sval (!s) v = -(sval s v) := by cases s <;> simp [sval]
theorem Dy.sub {k : FloatKind} {s : Nat} {n m : Int} {x y : F} (hx : Dy k s n x) (hy : Dy k s m y) (h : (n - m).natAbs < 2 ^ dgn k) : Dy k s (n - m) (fop .sub k x y) := by
 obtain ⟨b, rfl, h1, h2, hs, h3⟩ := hx
 obtain ⟨c, rfl, g1, g2, _, g3⟩ := hy
 obtain ⟨p, a, e1, e2⟩ := read_fin k.format h2
 obtain ⟨q, d, e3, e4⟩ := read_fin k.format g2
 unfold fval at h3 g3
 rw [← e2] at h3
 rw [← e4] at g3
 obtain ⟨r, hr⟩ := rep k.format (lpn k - s) (n - m).natAbs (by rw [← dgn_eq]; exact h)
 have hsum : sval (wneg k.format b) (p * 2 ^ a) + sval (!wneg k.format c) (q * 2 ^ d) = (n - m) * ((2 ^ (lpn k - s) : Nat) : Int) := by rw [sval_not, h3, g3, Int.sub_mul, Int.sub_eq_add_neg]
 have hlt : r < k.format.infRung := by
  refine lt_inf ?_
  rw [hr]
  refine Nat.lt_of_lt_of_le (Nat.mul_lt_mul_of_pos_right h (Nat.two_pow_pos _)) ?_
  rw [← Nat.pow_add]
  exact Nat.pow_le_pow_right (by decide) (by have := dg_top k; omega)
 obtain ⟨sg, k1, k2⟩ := sum_num k.format (s := wneg k.format b) (t := !wneg k.format c) (m := p) (n := q) (a := a) (b := d) (r := r) (by omega) (by rw [hsum, hr, Int.natAbs_mul]; simp)
 have e : fop .sub k (some b) (some c) = some (k.format.word sg r) := by
  show k.format.sub b c = _
  unfold Format.sub
  rw [e1, e3]; exact k2
 rw [e]
 refine Dy.word hs hr h fun hne => ?_
 have hp : (0 : Int) < ((2 ^ (lpn k - s) : Nat) : Int) := by have := Nat.two_pow_pos (lpn k - s); omega
 rw [hsum] at k1
 rw [k1 (Int.mul_ne_zero hne (by omega))]
 by_cases hl : n - m < 0
 ·rw [decide_eq_true hl, decide_eq_true (Int.mul_neg_of_neg_of_pos hl hp)]
 ·rw [decide_eq_false hl, decide_eq_false]
  have := Int.mul_nonneg (show (0 : Int) ≤ n - m by omega) (show (0 : Int) ≤ ((2 ^ (lpn k - s) : Nat) : Int) by omega)
  omega
theorem sval_sign {s : Bool} {v : Nat} {n p : Int} (hp : 0 < p) (h : sval s v = n * p) (hn : n ≠ 0) : s = decide (n < 0) := by
 cases s
 ·refine (decide_eq_false fun h0 => ?_).symm
  have := Int.mul_neg_of_neg_of_pos h0 hp
  simp only [sval] at h
  simp at h; omega
 ·refine (decide_eq_true ?_).symm
  rcases Int.lt_or_le n 0 with h0 | h0
  ·exact h0
  ·exfalso
   have := Int.mul_pos (show 0 < n by omega) hp
   simp only [sval] at h
   simp at h; omega
theorem Dy.mul {k : FloatKind} {s t : Nat} {n m : Int} {x y : F} (hx : Dy k s n x) (hy : Dy k t m y) (hst : s + t ≤ lpn k) (h : (n * m).natAbs < 2 ^ dgn k) : Dy k (s + t) (n * m) (fop .mul k x y) := by
 obtain ⟨b, rfl, h1, h2, hs, h3⟩ := hx
 obtain ⟨c, rfl, g1, g2, ht, g3⟩ := hy
 obtain ⟨p, a, e1, e2⟩ := read_fin k.format h2
 obtain ⟨q, d, e3, e4⟩ := read_fin k.format g2
 unfold fval at h3 g3
 rw [← e2] at h3
 rw [← e4] at g3
 obtain ⟨r, hr⟩ := rep k.format (lpn k - (s + t)) (n * m).natAbs (by rw [← dgn_eq]; exact h)
 have hlt : r < k.format.infRung := by
  refine lt_inf ?_
  rw [hr]
  refine Nat.lt_of_lt_of_le (Nat.mul_lt_mul_of_pos_right h (Nat.two_pow_pos _)) ?_
  rw [← Nat.pow_add]
  exact Nat.pow_le_pow_right (by decide) (by have := dg_top k; omega)
 have n1 : p * 2 ^ a = n.natAbs * 2 ^ (lpn k - s) := by
  have := congrArg Int.natAbs h3
  rw [sval_natAbs, Int.natAbs_mul] at this
  simpa using this
 have n2 : q * 2 ^ d = m.natAbs * 2 ^ (lpn k - t) := by
  have := congrArg Int.natAbs g3
  rw [sval_natAbs, Int.natAbs_mul] at this
  simpa using this
 have e : fop .mul k (some b) (some c) = some (k.format.word (wneg k.format b ^^ wneg k.format c) r) := by
  show k.format.mul b c = _
  unfold Format.mul
  rw [e1, e3]
  refine mul_num k.format (lpn_eq k) (by omega) ?_
  rw [hr, n1, n2, Int.natAbs_mul, Nat.mul_assoc, ← Nat.pow_add, Nat.mul_mul_mul_comm, ← Nat.pow_add]
  congr 2; omega
 rw [e]
 refine Dy.word hst hr h fun hne => ?_
 have hp1 : (0 : Int) < ((2 ^ (lpn k - s) : Nat) : Int) := by have := Nat.two_pow_pos (lpn k - s); omega
 have hp2 : (0 : Int) < ((2 ^ (lpn k - t) : Nat) : Int) := by have := Nat.two_pow_pos (lpn k - t); omega
 have hn0 : n ≠ 0 := fun e => hne (by rw [e, Int.zero_mul])
 have hm0 : m ≠ 0 := fun e => hne (by rw [e, Int.mul_zero])
 rw [sval_sign hp1 h3 hn0, sval_sign hp2 g3 hm0]
 rcases Int.lt_or_gt_of_ne hn0 with u | u <;> rcases Int.lt_or_gt_of_ne hm0 with v | v
 ·have := Int.mul_pos_of_neg_of_neg u v
  rw [decide_eq_true u, decide_eq_true v, decide_eq_false (by omega)]; rfl
 ·have := Int.mul_neg_of_neg_of_pos u v
  rw [decide_eq_true u, decide_eq_false (by omega), decide_eq_true this]; rfl
 ·have := Int.mul_neg_of_pos_of_neg u v
  rw [decide_eq_false (by omega), decide_eq_true v, decide_eq_true this]; rfl
 ·have := Int.mul_pos u v
  rw [decide_eq_false (by omega), decide_eq_false (by omega), decide_eq_false (by omega)]; rfl
theorem Dy.ord {k : FloatKind} {s : Nat} {n m : Int} {x y : F} (hx : Dy k s n x) (hy : Dy k s m y) : ford k x y = some (compare n m) := by
 obtain ⟨b, rfl, h1, h2, hs, h3⟩ := hx
 obtain ⟨c, rfl, g1, g2, _, g3⟩ := hy
 show k.format.order b c = _
 rw [order_fin k.format h2 g2]
 unfold fval at h3 g3
 rw [h3, g3, compare_mul (by have := Nat.two_pow_pos (lpn k - s); omega)]
theorem Dy.feq {k : FloatKind} {s : Nat} {n m : Int} {x y : F} (hx : Dy k s n x) (hy : Dy k s m y) : feq k x y = decide (n = m) := by
 unfold AM.feq
 rw [hx.ord hy]
 rcases Int.lt_trichotomy n m with h | h | h
 ·rw [Int.compare_eq_lt.2 h, decide_eq_false (by omega)]; rfl
 ·rw [Int.compare_eq_eq.2 h, decide_eq_true h]; rfl
 ·rw [Int.compare_eq_gt.2 h, decide_eq_false (by omega)]; rfl
theorem Dy.flt {k : FloatKind} {s : Nat} {n m : Int} {x y : F} (hx : Dy k s n x) (hy : Dy k s m y) : flt k x y = decide (n < m) := by
 unfold AM.flt
 rw [hx.ord hy]
 rcases Int.lt_trichotomy n m with h | h | h
 ·rw [Int.compare_eq_lt.2 h, decide_eq_true h]; rfl
 ·rw [Int.compare_eq_eq.2 h, decide_eq_false (by omega)]; rfl
 ·rw [Int.compare_eq_gt.2 h, decide_eq_false (by omega)]; rfl
theorem Dy.zero (k : FloatKind) {s : Nat} (hs : s ≤ lpn k) : Dy k s 0 (some 0) := by
 have e : (0 : Nat) = k.format.word false 0 := rfl
 rw [e]
 exact Dy.word hs (by rw [rval_zero]; simp) (Nat.two_pow_pos _) fun h => absurd rfl h
theorem Dy.int {k : FloatKind} {n : Int} (h : n.natAbs < 2 ^ dgn k) : Dy k 0 n (fint k n) := by
 obtain ⟨r, hr⟩ := rep k.format (lpn k) n.natAbs (by rw [← dgn_eq]; exact h)
 have hlt : r < k.format.infRung := by
  refine lt_inf ?_
  rw [hr]
  refine Nat.lt_of_lt_of_le (Nat.mul_lt_mul_of_pos_right h (Nat.two_pow_pos _)) ?_
  rw [← Nat.pow_add]
  exact Nat.pow_le_pow_right (by decide) (by have := dg_top k; omega)
 have e : fint k n = some (k.format.word (decide (n < 0)) r) := by
  unfold fint
  congr 1
  show k.format.nearest (decide (n < 0)) n.natAbs 0 = _
  refine nearest_exact k.format _ (by omega) (b := 0) (c := lpn k) (by rw [lpn_eq]; omega) ?_
  rw [hr]; simp
 rw [e]
 exact Dy.word (by omega) hr h fun _ => rfl
theorem Dy.word' {k : FloatKind} {s : Nat} {n : Int} {sg : Bool} {r : Nat} (hs : s ≤ lpn k) (hr : rval k.format r = n.natAbs * 2 ^ (lpn k - s)) (hlt : r < k.format.infRung) (h : n ≠ 0 → sg = decide (n < 0)) : Dy k s n (some (k.format.word sg r)) := by
 have hi := k.format.infRung_lt
 obtain ⟨k1, k2⟩ := wneg_word k.format sg (r := r) (by omega)
 refine ⟨_, rfl, k.format.word_lt sg (by omega), by rw [k2]; exact hlt, hs, ?_⟩
 unfold fval
 rw [k1, k2, hr]
 have := sval_of h
 unfold sval at this ⊢
 cases sg
 ·simp at this ⊢; rw [this]
 ·simp at this ⊢; rw [← Int.neg_mul, this]
theorem rval_split (f : Format) (r : Nat) : ∃ q e, rval f r = q * 2 ^ e ∧ q < 2 * f.binade := by
 have hB := binade_pos f
 unfold rval
 split
 ·exact ⟨r, 0, by simp, by omega⟩
 ·exact ⟨_, _, rfl, by have := Nat.mod_lt r hB; omega⟩
theorem quo_num (f : Format) {L : Nat} (hL : f.leastPlace = -(L : Int)) {s t : Bool} {m n a b r : Nat} (hn : n ≠ 0) (hr : r ≤ f.infRung) (h : rval f r * (n * 2 ^ b) = (m * 2 ^ a) * 2 ^ L) :
  (Datum.quotient (f.fractionBits + 2) (.number s m (f.leastPlace + a)) (.number t n (f.leastPlace + b))).map f.write = some (f.word (s ^^ t) r) := by
 have hdvd : (m * 2 ^ (f.fractionBits + 2 + n.log2 - m.log2)) % n = 0 := by
  by_cases hm : m = 0
  ·subst hm; simp
  obtain ⟨q, e, hq, hq2⟩ := rval_split f r
  rw [hq] at h
  have hqn : q * n * 2 ^ (e + b) = m * 2 ^ (a + L) := by
   rw [Nat.pow_add, Nat.pow_add, ← Nat.mul_assoc m, ← h, Nat.mul_mul_mul_comm]
  have hq0 : q ≠ 0 := by
   intro e0
   rw [e0, Nat.zero_mul, Nat.zero_mul] at hqn
   rcases Nat.mul_eq_zero.1 hqn.symm with h0 | h0
   ·exact hm h0
   ·exact absurd h0 (Nat.ne_of_gt (Nat.two_pow_pos _))
  by_cases hc : a + L ≤ e + b
  ·have e1 : 2 ^ (e + b) = 2 ^ (e + b - (a + L)) * 2 ^ (a + L) := by rw [← Nat.pow_add]; congr 1; omega
   rw [e1, ← Nat.mul_assoc] at hqn
   have := Nat.eq_of_mul_eq_mul_right (Nat.two_pow_pos (a + L)) hqn
   rw [← this, Nat.mul_right_comm q n, Nat.mul_right_comm _ n]
   exact Nat.mul_mod_left _ _
  ·have e1 : 2 ^ (a + L) = 2 ^ (a + L - (e + b)) * 2 ^ (e + b) := by rw [← Nat.pow_add]; congr 1; omega
   rw [e1, ← Nat.mul_assoc] at hqn
   have hqd := Nat.eq_of_mul_eq_mul_right (Nat.two_pow_pos (e + b)) hqn
   generalize hd : a + L - (e + b) = d at hqd
   have hlog : m.log2 + d = (q * n).log2 := by rw [hqd, log2_mul_pow hm]
   have hn1 : n < 2 ^ (n.log2 + 1) := (Nat.log2_lt hn).1 (Nat.lt_succ_self _)
   have hb2 : q < 2 ^ (f.fractionBits + 1) := by
    rw [Nat.pow_succ, Nat.mul_comm]; exact hq2
   have hlt : (q * n).log2 < f.fractionBits + 1 + (n.log2 + 1) := by
    refine (Nat.log2_lt (Nat.mul_ne_zero hq0 hn)).2 ?_
    rw [Nat.pow_add]
    exact Nat.mul_lt_mul'' hb2 hn1
   have hmore : 2 ^ (f.fractionBits + 2 + n.log2 - m.log2) = 2 ^ d * 2 ^ (f.fractionBits + 2 + n.log2 - m.log2 - d) := by rw [← Nat.pow_add]; congr 1; omega
   rw [hmore, ← Nat.mul_assoc, ← hqd, Nat.mul_right_comm]
   exact Nat.mul_mod_left _ _
 have e3 : ∀ more : Nat, (f.leastPlace + (a : Int)) - (f.leastPlace + (b : Int)) - (more : Int) - 1 + ((b + more + 1 : Nat) : Int) = f.leastPlace + ((a + L : Nat) : Int) := by intro more; rw [hL]; omega
 simp only [Datum.quotient, hn, if_false, Option.map_some]
 generalize hmo : f.fractionBits + 2 + n.log2 - m.log2 = more at *
 rw [Nat.shiftLeft_eq]
 congr 1
 rw [hdvd]
 refine nearest_exact f _ hr (b := b + more + 1) (c := a + L) (e3 more) ?_
 have hQ : n * (m * 2 ^ more / n) = m * 2 ^ more := Nat.mul_div_cancel' (Nat.dvd_of_mod_eq_zero hdvd)
 generalize m * 2 ^ more / n = Q at hQ
 have : n * ((2 * Q + (0 != 0 : Bool).toNat) * 2 ^ (a + L)) = n * (rval f r * 2 ^ (b + more + 1)) := by
  show n * ((2 * Q + 0) * 2 ^ (a + L)) = _
  have h2 : rval f r * (n * 2 ^ b) * (2 ^ more * 2) = m * 2 ^ a * 2 ^ L * (2 ^ more * 2) := by rw [h]
  rw [Nat.pow_add 2 a L, Nat.pow_add 2 (b + more) 1, Nat.pow_add 2 b more, Nat.pow_one]
  have l : n * ((2 * Q + 0) * (2 ^ a * 2 ^ L)) = n * Q * (2 ^ a * 2 ^ L * 2) := by
   rw [Nat.add_zero]; simp only [Nat.mul_comm, Nat.mul_assoc]
  rw [l, hQ]
  have l2 : m * 2 ^ more * (2 ^ a * 2 ^ L * 2) = m * 2 ^ a * 2 ^ L * (2 ^ more * 2) := by simp only [Nat.mul_comm, Nat.mul_left_comm, Nat.mul_assoc]
  rw [l2, ← h2]
  simp only [Nat.mul_comm, Nat.mul_left_comm, Nat.mul_assoc]
 exact Nat.eq_of_mul_eq_mul_left (Nat.pos_of_ne_zero hn) this
theorem Dy.quo {k : FloatKind} {s t : Nat} {q m : Int} {x y : F} (hx : Dy k s (q * m) x) (hy : Dy k t m y) (hm : m ≠ 0) (hst : t ≤ s) (h : q.natAbs < 2 ^ dgn k) : Dy k (s - t) q (fop .quo k x y) := by
 obtain ⟨b, rfl, h1, h2, hs, h3⟩ := hx
 obtain ⟨c, rfl, g1, g2, ht, g3⟩ := hy
 obtain ⟨p, a, e1, e2⟩ := read_fin k.format h2
 obtain ⟨w, d, e3, e4⟩ := read_fin k.format g2
 unfold fval at h3 g3
 rw [← e2] at h3
 rw [← e4] at g3
 obtain ⟨r, hr⟩ := rep k.format (lpn k - (s - t)) q.natAbs (by rw [← dgn_eq]; exact h)
 have hlt : r < k.format.infRung := by
  refine lt_inf ?_
  rw [hr]
  refine Nat.lt_of_lt_of_le (Nat.mul_lt_mul_of_pos_right h (Nat.two_pow_pos _)) ?_
  rw [← Nat.pow_add]
  exact Nat.pow_le_pow_right (by decide) (by have := dg_top k; omega)
 have n1 : p * 2 ^ a = (q.natAbs * m.natAbs) * 2 ^ (lpn k - s) := by
  have := congrArg Int.natAbs h3
  rw [sval_natAbs, Int.natAbs_mul, Int.natAbs_mul] at this
  simpa using this
 have n2 : w * 2 ^ d = m.natAbs * 2 ^ (lpn k - t) := by
  have := congrArg Int.natAbs g3
  rw [sval_natAbs, Int.natAbs_mul] at this
  simpa using this
 have hw : w ≠ 0 := by
  intro e0
  rw [e0, Nat.zero_mul] at n2
  have := Nat.mul_pos (show 0 < m.natAbs by omega) (Nat.two_pow_pos (lpn k - t))
  omega
 have e : fop .quo k (some b) (some c) = some (k.format.word (wneg k.format b ^^ wneg k.format c) r) := by
  show k.format.div b c = _
  unfold Format.div
  rw [e1, e3]
  refine quo_num k.format (lpn_eq k) hw (by omega) ?_
  rw [hr, n1, n2, Nat.mul_mul_mul_comm, ← Nat.pow_add, Nat.mul_assoc (q.natAbs * m.natAbs), ← Nat.pow_add]
  congr 2; omega
 rw [e]
 refine Dy.word (by omega) hr h fun hne => ?_
 have hp1 : (0 : Int) < ((2 ^ (lpn k - s) : Nat) : Int) := by have := Nat.two_pow_pos (lpn k - s); omega
 have hp2 : (0 : Int) < ((2 ^ (lpn k - t) : Nat) : Int) := by have := Nat.two_pow_pos (lpn k - t); omega
 rw [sval_sign hp1 h3 (Int.mul_ne_zero hne hm), sval_sign hp2 g3 hm]
 rcases Int.lt_or_gt_of_ne hne with u | u <;> rcases Int.lt_or_gt_of_ne hm with v | v
 ·have := Int.mul_pos_of_neg_of_neg u v
  rw [decide_eq_false (by omega), decide_eq_true v, decide_eq_true u]; rfl
 ·have := Int.mul_neg_of_neg_of_pos u v
  rw [decide_eq_true this, decide_eq_false (by omega), decide_eq_true u]; rfl
 ·have := Int.mul_neg_of_pos_of_neg u v
  rw [decide_eq_true this, decide_eq_true v, decide_eq_false (by omega)]; rfl
 ·have := Int.mul_pos u v
  rw [decide_eq_false (by omega), decide_eq_false (by omega), decide_eq_false (by omega)]; rfl
theorem Dy.widen {s : Nat} {n : Int} {x : F} (hx : Dy .f32 s n x) : Dy .f64 s n (fwiden x) := by
 obtain ⟨b, rfl, h1, h2, hs, h3⟩ := hx
 have hs : s ≤ 149 := hs
 have h2 : wrung single b < single.infRung := h2
 obtain ⟨p, a, e1, e2⟩ := read_fin single h2
 unfold fval at h3
 have h3 : sval (wneg single b) (rval single (wrung single b)) = n * ((2 ^ (149 - s) : Nat) : Int) := h3
 rw [← e2] at h3
 have n1 : p * 2 ^ a = n.natAbs * 2 ^ (149 - s) := by
  have := congrArg Int.natAbs h3
  rw [sval_natAbs, Int.natAbs_mul] at this
  simpa using this
 obtain ⟨hp, _, _⟩ := single_num e1
 obtain ⟨G, hG⟩ : ∃ G : Nat, G = 925 := ⟨925, rfl⟩
 obtain ⟨r, hr⟩ := rep double (a + G) p (by have e5 : (2 * double.binade) = 2 ^ 53 := (by decide); have e6 : (2 : Nat) ^ 24 < 2 ^ 53 := (by decide); omega)
 have hrn : rval double r = n.natAbs * 2 ^ (1074 - s) := by
  rw [hr, Nat.pow_add, ← Nat.mul_assoc, n1, Nat.mul_assoc, ← Nat.pow_add]
  congr 2; omega
 have hlt : r < double.infRung := by
  refine lt_inf (k := .f64) ?_
  show rval double r < 2 ^ topn .f64
  rw [hr, Nat.pow_add, ← Nat.mul_assoc, e2]
  have t1 : rval single (wrung single b) < 2 ^ topn .f32 := by
   exact (topn_eq .f32) ▸ rval_mono single h2
  refine Nat.lt_of_lt_of_le (Nat.mul_lt_mul_of_pos_right t1 (Nat.two_pow_pos _)) ?_
  rw [← Nat.pow_add]
  exact Nat.pow_le_pow_right (by decide) (by show 277 + G ≤ 2098; omega)
 have e : fwiden (some b) = some (double.word (wneg single b) r) := by
  show some (double.write (single.read b)) = _
  rw [e1]
  congr 1
  refine nearest_exact double _ (by omega) (b := 0) (c := a + G) ?_ (by rw [hr]; simp)
  show (single.leastPlace + (a : Int)) + ((0 : Nat) : Int) = double.leastPlace + ((a + G : Nat) : Int)
  rw [show single.leastPlace = -149 from by decide, show double.leastPlace = -1074 from by decide]; omega
 rw [e]
 refine Dy.word' (k := .f64) (show s ≤ 1074 by omega) hrn hlt fun hne => sval_sign ?_ h3 hne
 have := Nat.two_pow_pos (149 - s); omega
theorem Dy.narrow {s : Nat} {n : Int} {x : F} (hx : Dy .f64 s n x) (hs : s ≤ 149) (hn : n.natAbs < 16777216) : ∃ z, fnarrow x = some z ∧ Dy .f32 s n z := by
 obtain ⟨b, rfl, h1, h2, _, h3⟩ := hx
 have h2 : wrung double b < double.infRung := h2
 obtain ⟨p, a, e1, e2⟩ := read_fin double h2
 unfold fval at h3
 have h3 : sval (wneg double b) (rval double (wrung double b)) = n * ((2 ^ (1074 - s) : Nat) : Int) := h3
 rw [← e2] at h3
 have n1 : p * 2 ^ a = n.natAbs * 2 ^ (1074 - s) := by
  have := congrArg Int.natAbs h3
  rw [sval_natAbs, Int.natAbs_mul] at this
  simpa using this
 obtain ⟨r, hr⟩ := rep single (149 - s) n.natAbs (by have e5 : 2 * single.binade = 16777216 := (by decide); omega)
 have hd : n.natAbs < 2 ^ dgn .f32 := hn
 have hlt : r < single.infRung := by
  refine lt_inf (k := .f32) ?_
  show rval single r < 2 ^ topn .f32
  rw [hr]
  refine Nat.lt_of_lt_of_le (Nat.mul_lt_mul_of_pos_right hd (Nat.two_pow_pos _)) ?_
  rw [← Nat.pow_add]
  exact Nat.pow_le_pow_right (by decide) (by show 24 + (149 - s) ≤ 277; omega)
 obtain ⟨G, hG⟩ : ∃ G : Nat, G = 925 := ⟨925, rfl⟩
 have e : FloatKind.f32.encode (.number (wneg double b) p (double.leastPlace + (a : Int))) = single.word (wneg double b) r := by
  refine nearest_exact single _ (by omega) (b := G) (c := a) ?_ ?_
  ·rw [show single.leastPlace = -149 from by decide, show double.leastPlace = -1074 from by decide]; omega
  ·rw [hr, n1, Nat.mul_assoc, ← Nat.pow_add]
   congr 2; omega
 have hi := single.infRung_lt
 obtain ⟨k1, k2⟩ := wneg_word single (wneg double b) (r := r) (by omega)
 refine ⟨some (single.word (wneg double b) r), ?_, ?_⟩
 ·have hdec : FloatKind.f64.decode b = .number (wneg double b) p (double.leastPlace + (a : Int)) := e1
  unfold fnarrow
  simp only [hdec, e]
  obtain ⟨m', a', e5, _⟩ := read_fin single (w := single.word (wneg double b) r) (by rw [k2]; exact hlt)
  rw [show FloatKind.f32.decode (single.word (wneg double b) r) = single.read (single.word (wneg double b) r) from rfl, e5]
  rfl
 ·refine Dy.word' (k := .f32) hs hr hlt fun hne => sval_sign ?_ h3 hne
  have := Nat.two_pow_pos (1074 - s); omega
theorem Dy.fin {s : Nat} {n : Int} {x : F} (h : Dy .f32 s n x) : fin32 x = true := by
 obtain ⟨b, rfl, _, h2, _⟩ := h
 obtain ⟨m, a, e, _⟩ := read_fin _ h2
 have e' : Ieee.single.read b = _ := e
 show (!(Ieee.single.read b).isInfinity) = true
 rw [e']; rfl
end Go.AM

namespace Go.AM
section
variable {P : Program} {N : Nat} {all : Array Oper} {o : Oper} {rest : List Oper} {τ : List (Nat × AV)} {Γ : List Ob} {Q : PQ} {r : AV}
theorem zl {d : Nat} (hl : LOp P o τ r) (h : ROps P N all rest ((d, r) :: τ) Γ Q) (hw : wantT all τ o = some true := by exact rfl) (hd : o.dst = some d := by exact rfl) (hN : Nat.blt d (N / 2) = true := by exact rfl) : ROps P N all (o :: rest) τ Γ Q := ROps.l hw hd hN hl h
theorem zm {d : Nat} {x : Operand} (h : ROps P N all rest ((d, r) :: τ) Γ Q) (hw : wantT all τ o = some true := by exact rfl) (hd : o.dst = some d := by exact rfl) (hN : Nat.blt d (N / 2) = true := by exact rfl) (ho : o.op = .move x := by exact rfl) (hx : ev τ x = r := by exact rfl) : ROps P N all (o :: rest) τ Γ Q := ROps.l hw hd hN (LOp.move ho hx) h
theorem za {d : Nat} {x : Operand} (h : ROps P N all rest ((d, r) :: τ) Γ Q) (hw : wantT all τ o = some true := by exact rfl) (hd : o.dst = some d := by exact rfl) (hN : Nat.blt d (N / 2) = true := by exact rfl) (ho : o.op = .assign x := by exact rfl) (hx : ev τ x = r := by exact rfl) : ROps P N all (o :: rest) τ Γ Q := ROps.l hw hd hN (LOp.assign ho hx) h
theorem zQ {id : Nat} {l : List Oper} {y : Code} (h : ROps P N l.toArray l τ Γ (thenQ (fun τ Γ => RunC P N y τ Γ Q) Q)) : RunC P N (.seq (.region id l.toArray false) y) τ Γ Q := RunC.seq (RunC.regionW h)
theorem zN (h : Q .normal τ Γ) : ROps P N all [] τ Γ Q := ROps.nil h
theorem aR {a : AV} : ALe a a := ALe.refl a
end
end Go.AM
