/- Plain facts on floats: how finite words are ordered, equality up to the sign, widening keeps the sign and finiteness. -/
import Derived.Test.YtmgjiomflefedaaAmLaw
namespace Go.AM
open Ieee

def rval (f : Format) (r : Nat) : Nat := if r < f.binade then r else (f.binade + r % f.binade) * 2 ^ (r / f.binade - 1)
theorem binade_pos (f : Format) : 0 < f.binade := Nat.two_pow_pos _
theorem rval_succ (f : Format) (r : Nat) : rval f r < rval f (r + 1) := by
  have hB := binade_pos f
  unfold rval
  by_cases h1 : r + 1 < f.binade
  · rw [if_pos (by omega), if_pos h1]; omega
  · by_cases h2 : r < f.binade
    · rw [if_pos h2, if_neg h1]
      have e : r + 1 = f.binade := by omega
      rw [e, Nat.mod_self, Nat.div_self hB]
      simp; omega
    · rw [if_neg h2, if_neg h1]
      have hq : 1 ≤ r / f.binade := (Nat.one_le_div_iff hB).2 (by omega)
      have hm := Nat.mod_lt r hB
      have hdm := Nat.div_add_mod r f.binade
      by_cases h3 : r % f.binade + 1 < f.binade
      · have e1 : (r + 1) / f.binade = r / f.binade := by
          apply Nat.div_eq_of_lt_le
          · rw [Nat.mul_comm]; omega
          · rw [Nat.add_mul, Nat.one_mul, Nat.mul_comm]; omega
        have e2 : (r + 1) % f.binade = r % f.binade + 1 := by
          have := Nat.div_add_mod (r + 1) f.binade
          rw [e1] at this; omega
        rw [e1, e2]
        exact Nat.mul_lt_mul_of_pos_right (by omega) (Nat.two_pow_pos _)
      · have e0 : r % f.binade = f.binade - 1 := by omega
        have e1 : (r + 1) / f.binade = r / f.binade + 1 := by
          apply Nat.div_eq_of_lt_le
          · rw [Nat.add_mul, Nat.one_mul, Nat.mul_comm]; omega
          · rw [Nat.add_mul, Nat.add_mul, Nat.one_mul, Nat.mul_comm]; omega
        have e2 : (r + 1) % f.binade = 0 := by
          have := Nat.div_add_mod (r + 1) f.binade
          rw [e1, Nat.mul_add] at this; omega
        rw [e1, e2, e0]
        obtain ⟨q, hq'⟩ : ∃ q, r / f.binade = q + 1 := ⟨r / f.binade - 1, by omega⟩
        rw [hq']
        simp only [Nat.add_sub_cancel, Nat.add_zero]
        rw [Nat.pow_succ, ← Nat.mul_assoc, Nat.mul_comm (f.binade * 2 ^ q) 2, ← Nat.mul_assoc]
        exact Nat.mul_lt_mul_of_pos_right (by omega) (Nat.two_pow_pos _)
theorem rval_mono (f : Format) {r r' : Nat} (h : r < r') : rval f r < rval f r' := by
  induction r' with
  | zero => omega
  | succ k ih =>
    rcases Nat.lt_or_ge r k with h' | h'
    · exact Nat.lt_trans (ih h') (rval_succ f k)
    · have : r = k := by omega
      subst this; exact rval_succ f r
theorem rval_inj (f : Format) {r r' : Nat} (h : rval f r = rval f r') : r = r' := by
  rcases Nat.lt_trichotomy r r' with h1 | h1 | h1
  · have := rval_mono f h1; omega
  · exact h1
  · have := rval_mono f h1; omega
theorem rval_le (f : Format) {r r' : Nat} (h : r ≤ r') : rval f r ≤ rval f r' := by
  rcases Nat.eq_or_lt_of_le h with h | h
  · rw [h]; exact Nat.le_refl _
  · exact Nat.le_of_lt (rval_mono f h)

/-- Sign and rung of a word. -/
def wneg (f : Format) (w : Nat) : Bool := w / f.signWeight % 2 == 1
def wrung (f : Format) (w : Nat) : Nat := w % f.signWeight
theorem read_fin (f : Format) {w : Nat} (h : wrung f w < f.infRung) : ∃ m a, f.read w = .number (wneg f w) m (f.leastPlace + (a : Nat)) ∧ m * 2 ^ a = rval f (wrung f w) := by
  unfold Format.read rval
  unfold wrung at h
  by_cases h1 : w % f.signWeight < f.binade
  · refine ⟨w % f.signWeight, 0, ?_, ?_⟩
    · simp [h1, wneg]
    · simp [wrung, h1]
  · refine ⟨f.binade + w % f.signWeight % f.binade, w % f.signWeight / f.binade - 1, ?_, ?_⟩
    · simp [h1, h, wneg]
    · simp [wrung, h1]
theorem read_inf (f : Format) (hf : f.binade ≤ f.infRung) {w : Nat} (h : wrung f w = f.infRung) : f.read w = .infinity (wneg f w) := by
  unfold Format.read
  unfold wrung at h
  have hB : ¬ f.infRung < f.binade := by omega
  simp [h, hB, wneg]
theorem read_nan (f : Format) (hf : f.binade ≤ f.infRung) {w : Nat} (h : f.infRung < wrung f w) : (f.read w).isNaN = true := by
  unfold Format.read
  unfold wrung at h
  have h1 : ¬ w % f.signWeight < f.binade := by omega
  have h2 : ¬ w % f.signWeight < f.infRung := by omega
  have h3 : ¬ w % f.signWeight = f.infRung := by omega
  simp [h1, h2, h3, Datum.isNaN]
/-- A word that is no NaN. -/
theorem not_nan (f : Format) (hf : f.binade ≤ f.infRung) {w : Nat} (h : (f.read w).isNaN = false) : wrung f w ≤ f.infRung := by
  rcases Nat.lt_or_ge f.infRung (wrung f w) with h1 | h1
  · rw [read_nan f hf h1] at h; cases h
  · exact h1

def sval (s : Bool) (v : Nat) : Int := if s then -(v : Int) else v
theorem compare_mul {x y k : Int} (hk : 0 < k) : compare (x * k) (y * k) = compare x y := by
  rcases Int.lt_trichotomy x y with h | h | h
  · rw [Int.compare_eq_lt.2 h, Int.compare_eq_lt.2 (Int.mul_lt_mul_of_pos_right h hk)]
  · rw [h]; simp
  · rw [Int.compare_eq_gt.2 h, Int.compare_eq_gt.2 (Int.mul_lt_mul_of_pos_right h hk)]
theorem order_num (s t : Bool) (m n a b : Nat) (lp : Int) : Datum.order (.number s m (lp + a)) (.number t n (lp + b)) = some (compare (sval s (m * 2 ^ a)) (sval t (n * 2 ^ b))) := by
  simp only [Datum.order]
  congr 1
  have e1 : (lp + (a : Int) - min (lp + (a : Int)) (lp + (b : Int))).toNat = a - min a b := by omega
  have e2 : (lp + (b : Int) - min (lp + (a : Int)) (lp + (b : Int))).toNat = b - min a b := by omega
  rw [e1, e2]
  have key : ∀ (s : Bool) (m a c : Nat), c ≤ a → sval s (m * 2 ^ a) = signed s m (a - c) * ((2 ^ c : Nat) : Int) := by
    intro s m a c hc
    have : m * 2 ^ a = (m <<< (a - c)) * 2 ^ c := by
      rw [Nat.shiftLeft_eq, Nat.mul_assoc, ← Nat.pow_add]
      congr 2; omega
    unfold sval signed
    rw [this]
    cases s <;> simp [Int.neg_mul]
  rw [key s m a (min a b) (Nat.min_le_left _ _), key t n b (min a b) (Nat.min_le_right _ _), compare_mul (by exact_mod_cast Nat.two_pow_pos _)]
theorem order_fin (f : Format) {x y : Nat} (hx : wrung f x < f.infRung) (hy : wrung f y < f.infRung) : f.order x y = some (compare (sval (wneg f x) (rval f (wrung f x))) (sval (wneg f y) (rval f (wrung f y)))) := by
  obtain ⟨m, a, h1, h2⟩ := read_fin f hx
  obtain ⟨n, b, h3, h4⟩ := read_fin f hy
  unfold Format.order
  rw [h1, h3, order_num, h2, h4]
theorem word_eta (f : Format) {w : Nat} (h : w < 2 * f.signWeight) : w = f.word (wneg f w) (wrung f w) := by
  have hpos : 0 < f.signWeight := Nat.two_pow_pos _
  have h1 : w / f.signWeight < 2 := (Nat.div_lt_iff_lt_mul hpos).2 h
  have h2 := Nat.div_add_mod w f.signWeight
  unfold Format.word wneg wrung
  have h3 : w / f.signWeight = 0 ∨ w / f.signWeight = 1 := by
    generalize w / f.signWeight = q at h1
    omega
  rcases h3 with h3 | h3
  · rw [h3] at h2 ⊢; simp; omega
  · rw [h3] at h2 ⊢; simp; omega
theorem width_weight (f : Format) : 2 ^ f.width = 2 * f.signWeight := by
  unfold Format.width Format.signWeight
  rw [Nat.add_assoc, Nat.pow_add]

theorem FOk.none (k : FloatKind) (h : ∃ b, b < 2 ^ k.format.width ∧ (k.format.read b).isNaN = true) : FOk k none := h
theorem FOk.some {k : FloatKind} {b : Nat} (h : FOk k (some b)) : b < 2 ^ k.format.width ∧ (k.format.read b).isNaN = false := by
  obtain ⟨_, rfl, h1, h2⟩ := h; exact ⟨h1, h2⟩
theorem fmt_ok (k : FloatKind) : k.format.binade ≤ k.format.infRung := by cases k <;> decide

theorem order_refl (f : Format) (hf : f.binade ≤ f.infRung) {x : Nat} (hx : (f.read x).isNaN = false) : f.order x x = some .eq := by
  rcases Nat.lt_or_ge (wrung f x) f.infRung with h | h
  · rw [order_fin f h h]; simp
  · have h1 : wrung f x = f.infRung := Nat.le_antisymm (not_nan f hf hx) h
    unfold Format.order
    rw [read_inf f hf h1]
    simp [Datum.order]
theorem feq_refl {k : FloatKind} {b : Nat} (h : FOk k (some b)) : feq k (some b) (some b) = true := by
  simp [feq, ford, order_refl k.format (fmt_ok k) h.some.2]
@[simp] theorem feq_none_l {k : FloatKind} {c : F} : feq k none c = false := rfl
@[simp] theorem feq_none_r {k : FloatKind} {c : F} : feq k c none = false := by cases c <;> rfl

theorem sval_inj {s : Bool} {v w : Nat} (h : sval s v = sval s w) : v = w := by
  unfold sval at h; cases s <;> simp at h <;> omega
/-- Equal numbers of the same sign are the same word. -/
theorem eq_of_order {f : Format} (hf : f.binade ≤ f.infRung) {x y : Nat} (hx : x < 2 ^ f.width) (hy : y < 2 ^ f.width) (nx : (f.read x).isNaN = false) (ny : (f.read y).isNaN = false) (ho : f.order x y = some .eq) (hs : wneg f x = wneg f y) : x = y := by
  rw [width_weight] at hx hy
  rw [word_eta f hx, word_eta f hy, hs]
  congr 1
  have kx := not_nan f hf nx
  have ky := not_nan f hf ny
  rcases Nat.lt_or_ge (wrung f x) f.infRung with h1 | h1
  · rcases Nat.lt_or_ge (wrung f y) f.infRung with h2 | h2
    · rw [order_fin f h1 h2, hs] at ho
      have := Int.compare_eq_eq.1 (Option.some.inj ho)
      exact rval_inj f (sval_inj this)
    · exfalso
      have e : wrung f y = f.infRung := Nat.le_antisymm ky h2
      obtain ⟨m, a, e1, _⟩ := read_fin f h1
      unfold Format.order at ho
      rw [read_inf f hf e, e1] at ho
      simp only [Datum.order, Option.some.injEq] at ho
      split at ho <;> cases ho
  · have e1 : wrung f x = f.infRung := Nat.le_antisymm kx h1
    rcases Nat.lt_or_ge (wrung f y) f.infRung with h2 | h2
    · exfalso
      obtain ⟨m, a, e2, _⟩ := read_fin f h2
      unfold Format.order at ho
      rw [read_inf f hf e1, e2] at ho
      simp only [Datum.order, Option.some.injEq] at ho
      split at ho <;> cases ho
    · rw [e1]; exact (Nat.le_antisymm ky h2).symm

/-! what is written keeps its sign -/
theorem nearest_word (f : Format) (s : Bool) (m : Nat) (p : Int) : ∃ r, r ≤ f.infRung ∧ f.nearest s m p = f.word s r := by
  unfold Format.nearest
  split
  · exact ⟨0, Nat.zero_le _, rfl⟩
  · exact ⟨_, Nat.min_le_right _ _, rfl⟩
theorem wneg_word (f : Format) (s : Bool) {r : Nat} (h : r < f.signWeight) : wneg f (f.word s r) = s ∧ wrung f (f.word s r) = r := by
  have hpos : 0 < f.signWeight := Nat.two_pow_pos _
  unfold wneg wrung Format.word
  cases s
  · simp [Nat.div_eq_of_lt h, Nat.mod_eq_of_lt h]
  · have e1 : (f.signWeight + r) / f.signWeight = 1 := by rw [Nat.add_div_left _ hpos, Nat.div_eq_of_lt h]
    simp [e1, Nat.add_mod_left, Nat.mod_eq_of_lt h]
theorem write_neg (f : Format) {d : Datum} (h : d.isNaN = false) : wneg f (f.write d) = d.neg ∧ wrung f (f.write d) ≤ f.infRung := by
  have hi := f.infRung_lt
  cases d with
  | number s m p =>
    obtain ⟨r, h1, h2⟩ := nearest_word f s m p
    show wneg f (f.nearest s m p) = s ∧ wrung f (f.nearest s m p) ≤ f.infRung
    rw [h2]
    obtain ⟨k1, k2⟩ := wneg_word f s (r := r) (by omega)
    exact ⟨k1, by omega⟩
  | infinity s =>
    obtain ⟨k1, k2⟩ := wneg_word f s (r := f.infRung) hi
    exact ⟨k1, Nat.le_of_eq k2⟩
  | nan _ _ => cases h
theorem read_neg_of (f : Format) {w : Nat} (hf : f.binade ≤ f.infRung) (h : (f.read w).isNaN = false) : (f.read w).neg = wneg f w := by
  rcases Nat.lt_or_ge (wrung f w) f.infRung with h1 | h1
  · obtain ⟨m, a, e, _⟩ := read_fin f h1; rw [e]; rfl
  · rw [read_inf f hf (Nat.le_antisymm (not_nan f hf h) h1)]; rfl
/-- Widened, a number keeps its sign. -/
theorem widen_neg {b : Nat} (h : FOk .f32 (some b)) : wneg Ieee.double (FloatKind.f64.encode (FloatKind.f32.decode b)) = wneg Ieee.single b := by
  rw [show FloatKind.f64.encode (FloatKind.f32.decode b) = Ieee.double.write (Ieee.single.read b) from rfl]
  rw [(write_neg Ieee.double (d := Ieee.single.read b) h.some.2).1]
  exact read_neg_of Ieee.single (fmt_ok .f32) h.some.2
theorem fwiden_ok {c : F} (h : FOk .f32 c) : FOk .f64 (fwiden c) := by
  cases c with
  | none => exact ⟨0x7FF8000000000000, by decide, by decide⟩
  | some b => exact ⟨_, encode_FR .f64 h.some.2⟩
end Go.AM
