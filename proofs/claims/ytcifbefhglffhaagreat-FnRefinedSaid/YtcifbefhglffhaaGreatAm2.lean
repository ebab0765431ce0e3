/- The abstract layer, part 2. -/
import Derived.Test.YtcifbefhglffhaaGreatAm1
set_option linter.unusedVariables false
set_option linter.unusedVariables false
namespace Go.AM
open Ieee
theorem cut_near (s : Bool) (n d : Nat) : 2 * (Toward.even.cut s n d * 2 ^ d) ≤ 2 * n + 2 ^ d ∧ 2 * n ≤ 2 * (Toward.even.cut s n d * 2 ^ d) + 2 ^ d := by
 unfold Toward.cut
 dsimp only
 have hlt : n < 2 ^ (n.log2 + 1) := Nat.lt_log2_self
 rcases Nat.le_total d (n.log2 + 2) with hd | hd
 ·rw [Nat.min_eq_left hd, Nat.one_shiftLeft]
  have hp := Nat.two_pow_pos d
  have hdm := Nat.div_add_mod n (2 ^ d)
  have hr := Nat.mod_lt n hp
  generalize n / 2 ^ d = q at *
  generalize n % 2 ^ d = r at *
  generalize 2 ^ d = g at *
  rw [Nat.mul_comm g q] at hdm
  by_cases h1 : g < 2 * r
  ·have : (decide (g < 2 * r) || (g == 2 * r && q % 2 == 1)).toNat = 1 := by simp [h1]
   rw [this, Nat.add_mul, Nat.one_mul]
   omega
  ·by_cases h2 : (g == 2 * r && q % 2 == 1) = true
   ·have h3 : g = 2 * r := by simp at h2; exact h2.1
    have : (decide (g < 2 * r) || (g == 2 * r && q % 2 == 1)).toNat = 1 := by rw [h2]; simp
    rw [this, Nat.add_mul, Nat.one_mul]
    omega
   ·have : (decide (g < 2 * r) || (g == 2 * r && q % 2 == 1)).toNat = 0 := by simp [h1, h2]
    rw [this, Nat.add_zero]
    omega
 ·rw [Nat.min_eq_right hd, Nat.one_shiftLeft]
  have h4 : 2 ^ (n.log2 + 2) = 2 * 2 ^ (n.log2 + 1) := by rw [Nat.pow_succ]; omega
  have h5 : 2 ^ (n.log2 + 2) ≤ 2 ^ d := Nat.pow_le_pow_right (by decide) hd
  have h6 : n / 2 ^ (n.log2 + 2) = 0 := Nat.div_eq_of_lt (by omega)
  have h7 : n % 2 ^ (n.log2 + 2) = n := Nat.mod_eq_of_lt (by omega)
  have h8 : (decide (2 ^ (n.log2 + 2) < 2 * n) || (2 ^ (n.log2 + 2) == 2 * n && 0 % 2 == 1)).toNat = 0 := by
   have : ¬ 2 ^ (n.log2 + 2) < 2 * n := by omega
   simp [this]
  rw [h6, h7, h8]
  simp only [Nat.add_zero, Nat.zero_mul, Nat.mul_zero]
  omega
theorem rval_rung (f : Format) {A q : Nat} (h : A = 0 ∨ f.binade ≤ q) (h2 : q ≤ 2 * f.binade) : rval f (A * f.binade + q) = q * 2 ^ A := by
 rcases Nat.lt_or_ge q f.binade with h1 | h1
 ·rcases h with rfl | h
  ·rw [Nat.zero_mul, Nat.zero_add]
   unfold rval
   rw [if_pos h1]; simp
  ·omega
 ·rcases Nat.lt_or_ge q (2 * f.binade) with h3 | h3
  ·have := rung_high f (e := A) h1 h3
   rw [← this]
   congr 1
   rw [Nat.add_mul]; omega
  ·have e : q = 2 * f.binade := by omega
   have := rung_high f (e := A + 1) (q := f.binade) (Nat.le_refl _) (by have := binade_pos f; omega)
   subst e
   rw [show A * f.binade + 2 * f.binade = (A + 1 + 1) * f.binade + (f.binade - f.binade) from by rw [Nat.add_mul, Nat.add_mul]; omega, this, Nat.pow_succ, Nat.mul_assoc, Nat.mul_comm 2]
   simp [Nat.mul_comm, Nat.mul_assoc]
theorem nearest_near (f : Format) (s : Bool) {m : Nat} {p : Int} {b c K : Nat} (hm : m ≠ 0) (hp : p + (b : Int) = f.leastPlace + (c : Int)) (h : p + (m.log2 : Int) ≤ f.leastPlace + (f.fractionBits : Int) + (K : Int)) (hK : (K + 2) * f.binade < f.infRung) :
  ∃ r E, f.nearest s m p = f.word s r ∧ r < f.infRung ∧ (2 * E ≤ 2 ^ b ∨ 2 ^ (f.fractionBits + 1) * E ≤ m * 2 ^ c) ∧ rval f r * 2 ^ b ≤ m * 2 ^ c + E ∧ m * 2 ^ c ≤ rval f r * 2 ^ b + E := by
 have hB : f.binade = 2 ^ f.fractionBits := rfl
 obtain ⟨r0, e0, l0⟩ := nearest_small f s hm h (Nat.le_of_lt hK)
 have hw : ∀ x y : Nat, f.word s x = f.word s y → x = y := fun x y h => by
  unfold Format.word at h
  cases s <;> simp at h <;> omega
 unfold Format.nearest at e0
 rw [if_neg hm] at e0
 simp only at e0
 have e0' := hw _ _ e0
 unfold Format.nearest
 rw [if_neg hm]
 simp only
 generalize hl : max (p + (m.log2 : Int) - (f.fractionBits : Int)) f.leastPlace = last at *
 obtain ⟨A, hA⟩ : ∃ A : Nat, last = f.leastPlace + A := ⟨(last - f.leastPlace).toNat, by omega⟩
 have hA' : (last - f.leastPlace).toNat = A := by omega
 rw [hA'] at e0' ⊢
 have hlog : m < 2 ^ (m.log2 + 1) := Nat.lt_log2_self
 have hlog2 : 2 ^ m.log2 ≤ m := Nat.log2_self_le hm
 rcases (by omega : last ≤ p ∨ p < last) with hle | hle
 ·-- nothing is dropped
  have e1 : (last - p).toNat = 0 := by omega
  obtain ⟨t, ht⟩ : ∃ t : Nat, p = last + t := ⟨(p - last).toNat, by omega⟩
  have e2 : (p - last).toNat = t := by omega
  have hc := cut_mul s (m * 2 ^ t) 0
  rw [Nat.pow_zero, Nat.mul_one] at hc
  rw [e1, e2, Nat.shiftLeft_eq, hc] at e0' ⊢
  have hk2 : m * 2 ^ t < 2 * f.binade := by
   rw [hB, show 2 * 2 ^ f.fractionBits = 2 ^ (f.fractionBits + 1) from by rw [Nat.pow_succ]; omega]
   have : m * 2 ^ t < 2 ^ (m.log2 + 1) * 2 ^ t := Nat.mul_lt_mul_of_pos_right hlog (Nat.two_pow_pos _)
   rw [← Nat.pow_add] at this
   exact Nat.lt_of_lt_of_le this (Nat.pow_le_pow_right (by decide) (by omega))
  have hk1 : A = 0 ∨ f.binade ≤ m * 2 ^ t := by
   rcases Nat.eq_zero_or_pos A with h0 | h0
   ·exact .inl h0
   ·refine .inr ?_
    rw [hB]
    have : 2 ^ m.log2 * 2 ^ t ≤ m * 2 ^ t := Nat.mul_le_mul_right _ hlog2
    rw [← Nat.pow_add] at this
    exact Nat.le_trans (Nat.pow_le_pow_right (by decide) (by omega)) this
  have hv := rval_rung f hk1 (Nat.le_of_lt hk2)
  have hlt : A * f.binade + m * 2 ^ t < f.infRung := by
   rcases Nat.lt_or_ge (A * f.binade + m * 2 ^ t) f.infRung with h' | h'
   ·exact h'
   ·rw [Nat.min_eq_right h'] at e0'; omega
  refine ⟨A * f.binade + m * 2 ^ t, 0, by rw [Nat.min_eq_left (Nat.le_of_lt hlt)], hlt, .inl (Nat.zero_le _), ?_⟩
  rw [hv, Nat.mul_assoc, Nat.mul_assoc, ← Nat.pow_add, ← Nat.pow_add, show t + (A + b) = c from by omega]
  omega
 ·obtain ⟨d, hd⟩ : ∃ d : Nat, last = p + (d + 1 : Nat) := ⟨(last - p).toNat - 1, by omega⟩
  have e1 : (last - p).toNat = d + 1 := by omega
  have e2 : (p - last).toNat = 0 := by omega
  rw [e1, e2, Nat.shiftLeft_zero] at e0' ⊢
  obtain ⟨n1, n2⟩ := cut_near s m (d + 1)
  generalize Toward.even.cut s m (d + 1) = q at *
  have hp1 := Nat.two_pow_pos (d + 1)
  have hk2 : q ≤ 2 * f.binade := by
   have : m < 2 ^ (f.fractionBits + 1) * 2 ^ (d + 1) := by
    rw [← Nat.pow_add]
    exact Nat.lt_of_lt_of_le hlog (Nat.pow_le_pow_right (by decide) (by omega))
   rw [Nat.pow_succ, ← hB] at this
   have h9 : 2 * (q * 2 ^ (d + 1)) < (4 * f.binade + 1) * 2 ^ (d + 1) := by
    rw [Nat.add_mul, Nat.one_mul]
    have : 2 * (f.binade * 2 * 2 ^ (d + 1)) = 4 * f.binade * 2 ^ (d + 1) := by rw [← Nat.mul_assoc, ← Nat.mul_assoc]; congr 1; omega
    omega
   rw [← Nat.mul_assoc] at h9
   have := Nat.lt_of_mul_lt_mul_right h9
   omega
  have hk1 : A = 0 ∨ f.binade ≤ q := by
   rcases Nat.eq_zero_or_pos A with h0 | h0
   ·exact .inl h0
   ·refine .inr ?_
    have hl2 : m.log2 = f.fractionBits + (d + 1) := by omega
    have h9 : 2 ^ f.fractionBits * 2 ^ (d + 1) ≤ m := by rw [← Nat.pow_add, ← hl2]; exact hlog2
    rw [← hB] at h9
    have h10 : 2 * f.binade * 2 ^ (d + 1) < (2 * q + 2) * 2 ^ (d + 1) := by
     rw [Nat.add_mul, Nat.mul_assoc, Nat.mul_assoc]
     omega
    have := Nat.lt_of_mul_lt_mul_right h10
    omega
  have hv := rval_rung f hk1 hk2
  have hlt : A * f.binade + q < f.infRung := by
   rcases Nat.lt_or_ge (A * f.binade + q) f.infRung with h' | h'
   ·exact h'
   ·rw [Nat.min_eq_right h'] at e0'; omega
  have hE : 2 * (2 ^ d * 2 ^ c) = 2 ^ (d + 1) * 2 ^ c := by rw [Nat.pow_succ]; simp [Nat.mul_comm, Nat.mul_left_comm]
  have hvb : rval f (A * f.binade + q) * 2 ^ b = q * 2 ^ (d + 1) * 2 ^ c := by
   rw [hv, Nat.mul_assoc, Nat.mul_assoc, ← Nat.pow_add, ← Nat.pow_add, show A + b = d + 1 + c from by omega]
  refine ⟨A * f.binade + q, 2 ^ d * 2 ^ c, by rw [Nat.min_eq_left (Nat.le_of_lt hlt)], hlt, ?_, ?_, ?_⟩
  ·rcases Nat.eq_zero_or_pos A with h0 | h0
   ·refine .inl ?_
    rw [hE, ← Nat.pow_add, show d + 1 + c = b from by omega]
    exact Nat.le_refl _
   ·refine .inr ?_
    have hl2 : m.log2 = f.fractionBits + (d + 1) := by omega
    rw [← Nat.mul_assoc, ← Nat.pow_add, show f.fractionBits + 1 + d = m.log2 from by omega]
    exact Nat.mul_le_mul_right _ hlog2
  ·rw [hvb]
   have hD : 2 ^ (d + 1) = 2 * 2 ^ d := by rw [Nat.pow_succ]; omega
   have := Nat.mul_le_mul_right (2 ^ c) (show q * 2 ^ (d + 1) ≤ m + 2 ^ d by omega)
   rw [Nat.add_mul] at this
   exact this
  ·rw [hvb]
   have hD : 2 ^ (d + 1) = 2 * 2 ^ d := by rw [Nat.pow_succ]; omega
   have := Nat.mul_le_mul_right (2 ^ c) (show m ≤ q * 2 ^ (d + 1) + 2 ^ d by omega)
   rw [Nat.add_mul] at this
   exact this
def Ab (x e : Rat) : Prop := -e ≤ x ∧ x ≤ e
def sg (s : Bool) (x : Rat) : Rat := if s then -x else x
def ep (k : FloatKind) : Rat := 1 / 2 ^ (k.format.fractionBits)
def et (k : FloatKind) : Rat := 1 / 2 ^ (lpn k)
def Rv (k : FloatKind) (q : Rat) (x : F) : Prop := ∃ n : Int, Dy k (lpn k) n x ∧ (n : Rat) = q * 2 ^ lpn k
theorem p2 (n : Nat) : (0 : Rat) < 2 ^ n := Rat.pow_pos (by decide)
theorem rpow_add (a b : Nat) : (2 : Rat) ^ (a + b) = 2 ^ a * 2 ^ b := by grind
theorem div_mul_pos {a c : Rat} (h : 0 < c) : a / c * c = a := by grind
theorem div_nonneg {a c : Rat} (h : 0 < c) (ha : 0 ≤ a) : 0 ≤ a / c := Rat.le_of_mul_le_mul_right (c := c) (by rw [div_mul_pos h]; grind) h
theorem one_div_pos {c : Rat} (h : 0 < c) : 0 < 1 / c := Rat.lt_of_mul_lt_mul_right (c := c) (by rw [div_mul_pos h]; grind) (by grind)
theorem Ab.mono {x e f : Rat} (h : Ab x e) (hf : e ≤ f) : Ab x f := ⟨by have := h.1; grind, by have := h.2; grind⟩
theorem Ab.nonneg {x e : Rat} (h : Ab x e) : 0 ≤ e := by have := h.1; have := h.2; grind
theorem Ab.add {x y e f : Rat} (h : Ab x e) (g : Ab y f) : Ab (x + y) (e + f) := ⟨by have := h.1; have := g.1; grind, by have := h.2; have := g.2; grind⟩
theorem Ab.sub {x y e f : Rat} (h : Ab x e) (g : Ab y f) : Ab (x - y) (e + f) := ⟨by have := h.1; have := g.2; grind, by have := h.2; have := g.1; grind⟩
theorem Ab.neg {x e : Rat} (h : Ab x e) : Ab (-x) e := ⟨by have := h.2; grind, by have := h.1; grind⟩
theorem Ab.mul {x y e f : Rat} (h : Ab x e) (g : Ab y f) : Ab (x * y) (e * f) := by
 obtain ⟨h1, h2⟩ := h
 obtain ⟨g1, g2⟩ := g
 have a := Rat.mul_nonneg (show 0 ≤ e - x by grind) (show 0 ≤ f - y by grind)
 have b := Rat.mul_nonneg (show 0 ≤ e - x by grind) (show 0 ≤ f + y by grind)
 have c := Rat.mul_nonneg (show 0 ≤ e + x by grind) (show 0 ≤ f - y by grind)
 have d := Rat.mul_nonneg (show 0 ≤ e + x by grind) (show 0 ≤ f + y by grind)
 exact ⟨by grind, by grind⟩
theorem Ab.sg {s : Bool} {x e : Rat} (h : Ab x e) : Ab (sg s x) e := by
 unfold AM.sg
 cases s
 ·exact h
 ·exact h.neg
theorem sg_sub (s : Bool) (x y : Rat) : sg s x - sg s y = sg s (x - y) := by unfold sg; cases s <;> grind
theorem sg_mul (s t : Bool) (x y : Rat) : sg s x * sg t y = sg (s ^^ t) (x * y) := by unfold sg; cases s <;> cases t <;> simp <;> grind
theorem sg_zero (s : Bool) : sg s 0 = 0 := by unfold sg; cases s <;> simp
theorem Rv.fok {k : FloatKind} {q : Rat} {x : F} (h : Rv k q x) : FOk k x := by obtain ⟨n, h, _⟩ := h; exact h.fok
theorem Rv.of_dy {k : FloatKind} {s : Nat} {n : Int} {x : F} (h : Dy k s n x) : Rv k ((n : Rat) / 2 ^ s) x := by
 have hs : s ≤ lpn k := by obtain ⟨_, _, _, _, hs, _⟩ := h; exact hs
 have h2 := h.scale (t := lpn k - s) (by omega)
 rw [show s + (lpn k - s) = lpn k from by omega] at h2
 refine ⟨_, h2, ?_⟩
 have e : (2 : Rat) ^ lpn k = 2 ^ s * 2 ^ (lpn k - s) := by rw [← rpow_add, show s + (lpn k - s) = lpn k from by omega]
 have := p2 s
 rw [e]
 push_cast
 grind
theorem Rv.uniq {k : FloatKind} {q r : Rat} {x : F} (h : Rv k q x) (g : Rv k r x) : q = r := by
 obtain ⟨n, h1, h2⟩ := h
 obtain ⟨m, g1, g2⟩ := g
 obtain ⟨b, rfl, _, _, _, h3⟩ := h1
 obtain ⟨c, e, _, _, _, g3⟩ := g1
 cases e
 rw [Nat.sub_self] at h3 g3
 have : n = m := by simp at h3 g3; omega
 subst this
 have := p2 (lpn k)
 have : (q - r) * 2 ^ lpn k = 0 := by grind
 rcases Rat.mul_eq_zero.1 this with h | h <;> grind
theorem Rv.read {k : FloatKind} {q : Rat} {x : F} (h : Rv k q x) : ∃ b s m a u, x = some b ∧ k.format.read b = .number s m (k.format.leastPlace + (a : Nat)) ∧ 0 ≤ u ∧ u * 2 ^ lpn k = (m : Rat) * 2 ^ a ∧ q = sg s u ∧ ((sval s (m * 2 ^ a) : Int) : Rat) = q * 2 ^ lpn k := by
 obtain ⟨n, ⟨b, rfl, h1, h2, _, h3⟩, h4⟩ := h
 obtain ⟨m, a, e1, e2⟩ := read_fin k.format h2
 have hp := p2 (lpn k)
 have ha := p2 a
 rw [Nat.sub_self] at h3
 unfold fval at h3
 rw [← e2] at h3
 simp only [Nat.pow_zero, Int.natCast_one, Int.mul_one] at h3
 refine ⟨b, wneg k.format b, m, a, (m : Rat) * 2 ^ a / 2 ^ lpn k, rfl, e1, ?_, by grind, ?_⟩
 ·exact div_nonneg hp (Rat.mul_nonneg (by exact_mod_cast Nat.zero_le m) (by grind))
 ·refine ⟨?_, by rw [h3]; exact h4⟩
  rw [← h3] at h4
  unfold sval at h4
  unfold sg
  cases hw : wneg k.format b <;> rw [hw] at h4 <;> simp [Rat.intCast_natCast] at h4 ⊢ <;> grind
theorem rv_word {k : FloatKind} {s : Bool} {r : Nat} (h : r < k.format.infRung) : Rv k (sg s ((rval k.format r : Nat) / 2 ^ lpn k)) (some (k.format.word s r)) := by
 have hp := p2 (lpn k)
 refine ⟨sval s (rval k.format r), ?_, ?_⟩
 ·refine Dy.word' (Nat.le_refl _) ?_ h fun hne => ?_
  ·rw [sval_natAbs, Nat.sub_self]; simp
  ·unfold sval at hne ⊢
   cases s <;> simp at hne ⊢ <;> omega
 ·have := div_mul_pos (a := ((rval k.format r : Nat) : Rat)) hp
  unfold sval sg
  cases s <;> simp [Rat.intCast_natCast] <;> grind
theorem rv_near {k : FloatKind} {s : Bool} {m : Nat} {p : Int} {b c : Nat} {u M : Rat} (hp : p + (b : Int) = k.format.leastPlace + (c : Int)) (hu : u * 2 ^ (lpn k + b) = (m : Rat) * 2 ^ c) (hM : u ≤ M) (h60 : M ≤ 2 ^ 60) :
  ∃ r, Rv k (sg s r) (some (k.format.nearest s m p)) ∧ 0 ≤ r ∧ Ab (r - u) (M * (1 / 2 ^ (k.format.fractionBits + 1)) + 1 / 2 ^ (lpn k + 1)) := by
 have hP := p2 (lpn k)
 have hB := p2 b
 have hC := p2 c
 have hF := p2 (k.format.fractionBits + 1)
 have hm0 : (0 : Rat) ≤ (m : Rat) := by exact_mod_cast Nat.zero_le m
 have hmC : (0 : Rat) ≤ (m : Rat) * 2 ^ c := Rat.mul_nonneg hm0 (by grind)
 rw [rpow_add] at hu
 have hPB : (0 : Rat) < 2 ^ lpn k * 2 ^ b := Rat.mul_pos hP hB
 have hu0 : 0 ≤ u := Rat.le_of_mul_le_mul_right (c := 2 ^ lpn k * 2 ^ b) (by grind) hPB
 by_cases hm : m = 0
 ·subst hm
  have hu1 : u = 0 := by
   rcases Rat.mul_eq_zero.1 (show u * (2 ^ lpn k * 2 ^ b) = 0 by grind) with h | h <;> grind
  refine ⟨0, ?_, Rat.le_refl, ?_⟩
  ·have := rv_word (k := k) (s := s) (r := 0) (by cases k <;> decide)
   unfold Format.nearest
   rw [if_pos rfl]
   rw [rval_zero, show ((0 : Nat) : Rat) / 2 ^ lpn k = 0 from by grind] at this
   exact this
  ·rw [hu1]
   have h1 : (0 : Rat) < 1 / 2 ^ (k.format.fractionBits + 1) := one_div_pos hF
   have h2 : (0 : Rat) < 1 / 2 ^ (lpn k + 1) := one_div_pos (p2 _)
   have h3 := Rat.mul_nonneg (show 0 ≤ M by grind) (show (0 : Rat) ≤ 1 / 2 ^ (k.format.fractionBits + 1) by grind)
   exact ⟨by grind, by grind⟩
 ·have hlog2 : 2 ^ m.log2 ≤ m := Nat.log2_self_le hm
  have hlog : m.log2 + c ≤ 60 + (lpn k + b) := by
   have h1 : (m : Rat) * 2 ^ c ≤ 2 ^ 60 * (2 ^ lpn k * 2 ^ b) := by
    rw [← hu]
    exact Rat.mul_le_mul_of_nonneg_right (by grind) (by grind)
   have h2 : m * 2 ^ c ≤ 2 ^ 60 * (2 ^ lpn k * 2 ^ b) := by exact_mod_cast h1
   have h3 : 2 ^ (m.log2 + c) ≤ 2 ^ (60 + (lpn k + b)) := by
    rw [Nat.pow_add, Nat.pow_add 2 60, Nat.pow_add 2 (lpn k)]
    exact Nat.le_trans (Nat.mul_le_mul_right _ hlog2) h2
   exact (Nat.pow_le_pow_iff_right (by decide)).1 h3
  obtain ⟨K, hK⟩ : ∃ K : Nat, (K : Int) = 60 + lpn k ∧ (K + 2) * k.format.binade < k.format.infRung := by
   refine ⟨60 + lpn k, by omega, ?_⟩
   cases k <;> decide +kernel
  obtain ⟨r, E, e, hr, hE, l1, l2⟩ := nearest_near k.format s (m := m) (p := p) (b := b) (c := c) (K := K) hm hp (by rw [hK.1]; have := lpn_eq k; omega) hK.2
  have hE' : (2 * (E : Rat) ≤ 2 ^ b ∨ 2 ^ (k.format.fractionBits + 1) * (E : Rat) ≤ (m : Rat) * 2 ^ c) := by exact_mod_cast hE
  have l1' : ((rval k.format r : Nat) : Rat) * 2 ^ b ≤ (m : Rat) * 2 ^ c + E := by exact_mod_cast l1
  have l2' : (m : Rat) * 2 ^ c ≤ ((rval k.format r : Nat) : Rat) * 2 ^ b + E := by exact_mod_cast l2
  have hR0 : (0 : Rat) ≤ ((rval k.format r : Nat) : Rat) := by exact_mod_cast Nat.zero_le _
  have hE0 : (0 : Rat) ≤ (E : Rat) := by exact_mod_cast Nat.zero_le _
  generalize hRR : ((rval k.format r : Nat) : Rat) = R at *
  refine ⟨R / 2 ^ lpn k, ?_, ?_, ?_⟩
  ·rw [e, ← hRR]; exact rv_word hr
  ·exact div_nonneg hP hR0
  ·have hd : (R / 2 ^ lpn k - u) * (2 ^ lpn k * 2 ^ b) = R * 2 ^ b - (m : Rat) * 2 ^ c := by grind
   generalize R / 2 ^ lpn k - u = d at hd ⊢
   have f1 : (1 / 2 ^ (k.format.fractionBits + 1) : Rat) * 2 ^ (k.format.fractionBits + 1) = 1 := by grind
   have f2 : (1 / 2 ^ (lpn k + 1) : Rat) * 2 ^ lpn k = 1 / 2 := by
    rw [rpow_add]; grind
   have hx := one_div_pos hF
   have hy := one_div_pos (p2 (lpn k + 1))
   generalize (1 / 2 ^ (k.format.fractionBits + 1) : Rat) = x at *
   generalize (1 / 2 ^ (lpn k + 1) : Rat) = y at *
   generalize (2 : Rat) ^ (k.format.fractionBits + 1) = Fp at *
   generalize (2 : Rat) ^ lpn k = P at *
   generalize (2 : Rat) ^ b = B at *
   generalize (m : Rat) * 2 ^ c = V at *
   have hMx : 0 ≤ M * x := Rat.mul_nonneg (Rat.le_trans hu0 hM) (Rat.le_of_lt hx)
   have key : (E : Rat) ≤ (M * x + y) * (P * B) := by
    rcases hE' with h | h
    ·have h1 : y * (P * B) = B / 2 := by grind
     have h2 := Rat.mul_nonneg hMx (show 0 ≤ P * B by grind)
     grind
    ·have h1 : (E : Rat) = x * (Fp * E) := by grind
     have h2 : x * (Fp * E) ≤ x * V := Rat.mul_le_mul_of_nonneg_left h (by grind)
     have h3 : x * V = x * u * (P * B) := by grind
     have h4 : x * u * (P * B) ≤ x * M * (P * B) := Rat.mul_le_mul_of_nonneg_right (Rat.mul_le_mul_of_nonneg_left hM (by grind)) (by grind)
     have h5 := Rat.mul_nonneg (show 0 ≤ y by grind) (show 0 ≤ P * B by grind)
     grind
   exact ⟨Rat.le_of_mul_le_mul_right (c := P * B) (by grind) hPB, Rat.le_of_mul_le_mul_right (c := P * B) (by grind) hPB⟩
def er (k : FloatKind) (M : Rat) : Rat := M * ep k + et k
theorem ep_pos (k : FloatKind) : 0 < ep k := one_div_pos (p2 _)
theorem et_pos (k : FloatKind) : 0 < et k := one_div_pos (p2 _)
theorem half_pow (n : Nat) : (1 : Rat) / 2 ^ (n + 1) = 1 / 2 ^ n / 2 := by
 have := p2 n
 rw [Rat.pow_succ]; grind
theorem er_of {k : FloatKind} {M x : Rat} (hM : 0 ≤ M) (h : Ab x (M * (1 / 2 ^ (k.format.fractionBits + 1)) + 1 / 2 ^ (lpn k + 1))) : Ab x (er k M) := by
 refine h.mono ?_
 rw [half_pow, half_pow]
 have h1 := Rat.mul_nonneg hM (Rat.le_of_lt (ep_pos k))
 have h2 := et_pos k
 show M * (ep k / 2) + et k / 2 ≤ M * ep k + et k
 grind
def eh (k : FloatKind) (M : Rat) : Rat := M * (1 / 2 ^ (k.format.fractionBits + 1)) + 1 / 2 ^ (lpn k + 1)
theorem sum_rvh {k : FloatKind} {s t : Bool} {m n a d : Nat} {q r M : Rat} (hq : ((sval s (m * 2 ^ a) : Int) : Rat) = q * 2 ^ lpn k) (hr : ((sval t (n * 2 ^ d) : Int) : Rat) = r * 2 ^ lpn k) (hM : Ab (q + r) M) (h60 : M ≤ 2 ^ 60) :
  ∃ z, Rv k z ((Datum.sum (.number s m (k.format.leastPlace + a)) (.number t n (k.format.leastPlace + d))).map k.format.write) ∧ Ab (z - (q + r)) (eh k M) := by
 simp only [Datum.sum]
 have e1 : (k.format.leastPlace + (a : Int) - min (k.format.leastPlace + (a : Int)) (k.format.leastPlace + (d : Int))).toNat = a - min a d := by omega
 have e2 : (k.format.leastPlace + (d : Int) - min (k.format.leastPlace + (a : Int)) (k.format.leastPlace + (d : Int))).toNat = d - min a d := by omega
 have e3 : min (k.format.leastPlace + (a : Int)) (k.format.leastPlace + (d : Int)) = k.format.leastPlace + ((min a d : Nat) : Int) := by omega
 rw [e1, e2, e3]
 rw [sval_signed s m a (min a d) (Nat.min_le_left _ _)] at hq
 rw [sval_signed t n d (min a d) (Nat.min_le_right _ _)] at hr
 have hT : ((signed s m (a - min a d) + signed t n (d - min a d) : Int) : Rat) * 2 ^ min a d = (q + r) * 2 ^ lpn k := by
  push_cast at hq hr ⊢; grind
 generalize signed s m (a - min a d) + signed t n (d - min a d) = total at hT ⊢
 generalize hsg : (if total = 0 then s && t else decide (total < 0)) = w
 have hP := p2 (lpn k)
 have hC := p2 (min a d)
 have hu : ∃ u, u * 2 ^ (lpn k + 0) = (total.natAbs : Rat) * 2 ^ min a d ∧ sg w u = q + r := by
  rw [Nat.add_zero]
  by_cases h0 : total < 0
  ·have hn : (total.natAbs : Int) = -total := by omega
   have hn' : ((total.natAbs : Nat) : Rat) = -((total : Int) : Rat) := by rw [← Rat.intCast_natCast, hn]; push_cast; rfl
   refine ⟨-(q + r), by rw [hn']; grind, ?_⟩
   rw [← hsg, if_neg (by omega), decide_eq_true h0]
   unfold sg; simp
  ·have hn : (total.natAbs : Int) = total := by omega
   have hn' : ((total.natAbs : Nat) : Rat) = ((total : Int) : Rat) := by rw [← Rat.intCast_natCast, hn]
   refine ⟨q + r, by rw [hn']; grind, ?_⟩
   by_cases h1 : total = 0
   ·have hz : q + r = 0 := by
     subst h1
     rcases Rat.mul_eq_zero.1 (show (q + r) * 2 ^ lpn k = 0 by rw [← hT]; simp) with h | h
     ·exact h
     ·rw [h] at hP; exact absurd hP (by decide)
    rw [hz, sg_zero]
   ·rw [← hsg, if_neg h1, decide_eq_false h0]
    unfold sg; simp
 obtain ⟨u, u1, u2⟩ := hu
 have huM : u ≤ M := by
  rw [← u2] at hM
  unfold sg at hM
  obtain ⟨h1, h2⟩ := hM
  cases w <;> simp at h1 h2 <;> grind
 obtain ⟨z, z1, _, z2⟩ := rv_near (k := k) (s := w) (m := total.natAbs) (p := k.format.leastPlace + ((min a d : Nat) : Int)) (b := 0) (c := min a d) (u := u) (M := M) (by omega) u1 huM h60
 refine ⟨sg w z, ?_, ?_⟩
 ·rw [Option.map_some]; exact z1
 ·rw [← u2, sg_sub]; exact z2.sg
theorem Rv.addh {k : FloatKind} {q r M : Rat} {x y : F} (hx : Rv k q x) (hy : Rv k r y) (hM : Ab (q + r) M) (h60 : M ≤ 2 ^ 60) : ∃ z, Rv k z (fop .add k x y) ∧ Ab (z - (q + r)) (eh k M) := by
 obtain ⟨b, s, m, a, u, rfl, e1, _, _, _, h1⟩ := hx.read
 obtain ⟨c, t, n, d, w, rfl, e2, _, _, _, h2⟩ := hy.read
 have e : fop .add k (some b) (some c) = (Datum.sum (.number s m (k.format.leastPlace + a)) (.number t n (k.format.leastPlace + d))).map k.format.write := by
  show k.format.add b c = _
  unfold Format.add
  rw [e1, e2]
 rw [e]; exact sum_rvh h1 h2 hM h60
theorem Rv.subh {k : FloatKind} {q r M : Rat} {x y : F} (hx : Rv k q x) (hy : Rv k r y) (hM : Ab (q - r) M) (h60 : M ≤ 2 ^ 60) : ∃ z, Rv k z (fop .sub k x y) ∧ Ab (z - (q - r)) (eh k M) := by
 obtain ⟨b, s, m, a, u, rfl, e1, _, _, _, h1⟩ := hx.read
 obtain ⟨c, t, n, d, w, rfl, e2, _, _, _, h2⟩ := hy.read
 have e : fop .sub k (some b) (some c) = (Datum.sum (.number s m (k.format.leastPlace + a)) (.number (!t) n (k.format.leastPlace + d))).map k.format.write := by
  show k.format.sub b c = _
  unfold Format.sub
  rw [e1, e2]; rfl
 rw [e, Rat.sub_eq_add_neg]
 rw [Rat.sub_eq_add_neg] at hM
 refine sum_rvh h1 ?_ hM h60
 rw [sval_not]; push_cast; grind
theorem Rv.mulh {k : FloatKind} {q r M : Rat} {x y : F} (hx : Rv k q x) (hy : Rv k r y) (hM : Ab (q * r) M) (h60 : M ≤ 2 ^ 60) : ∃ z, Rv k z (fop .mul k x y) ∧ Ab (z - q * r) (eh k M) := by
 obtain ⟨b, s, m, a, u, rfl, e1, u0, u1, u2, h1⟩ := hx.read
 obtain ⟨c, t, n, d, w, rfl, e2, w0, w1, w2, h2⟩ := hy.read
 have e : fop .mul k (some b) (some c) = some (k.format.nearest (s ^^ t) (m * n) (k.format.leastPlace + (a : Int) + (k.format.leastPlace + (d : Int)))) := by
  show k.format.mul b c = _
  unfold Format.mul
  rw [e1, e2]; rfl
 have hqr : q * r = sg (s ^^ t) (u * w) := by rw [u2, w2, sg_mul]
 have huM : u * w ≤ M := by
  rw [hqr] at hM
  unfold sg at hM
  obtain ⟨h1, h2⟩ := hM
  have := Rat.mul_nonneg u0 w0
  cases hb : (s ^^ t) <;> rw [hb] at h1 h2 <;> simp at h1 h2 <;> grind
 obtain ⟨z, z1, _, z2⟩ := rv_near (k := k) (s := s ^^ t) (m := m * n) (p := k.format.leastPlace + (a : Int) + (k.format.leastPlace + (d : Int))) (b := lpn k) (c := a + d) (u := u * w) (M := M) (by have := lpn_eq k; omega) (by
  rw [rpow_add, rpow_add]; push_cast; grind) huM h60
 refine ⟨sg (s ^^ t) z, by rw [e]; exact z1, ?_⟩
 rw [hqr, sg_sub]; exact z2.sg
theorem Rv.add {k : FloatKind} {q r M : Rat} {x y : F} (hx : Rv k q x) (hy : Rv k r y) (hM : Ab (q + r) M) (h60 : M ≤ 2 ^ 60) : ∃ z, Rv k z (fop .add k x y) ∧ Ab (z - (q + r)) (er k M) := by
 obtain ⟨z, z1, z2⟩ := hx.addh hy hM h60
 exact ⟨z, z1, er_of hM.nonneg z2⟩
theorem Rv.sub {k : FloatKind} {q r M : Rat} {x y : F} (hx : Rv k q x) (hy : Rv k r y) (hM : Ab (q - r) M) (h60 : M ≤ 2 ^ 60) : ∃ z, Rv k z (fop .sub k x y) ∧ Ab (z - (q - r)) (er k M) := by
 obtain ⟨z, z1, z2⟩ := hx.subh hy hM h60
 exact ⟨z, z1, er_of hM.nonneg z2⟩
theorem Rv.mul {k : FloatKind} {q r M : Rat} {x y : F} (hx : Rv k q x) (hy : Rv k r y) (hM : Ab (q * r) M) (h60 : M ≤ 2 ^ 60) : ∃ z, Rv k z (fop .mul k x y) ∧ Ab (z - q * r) (er k M) := by
 obtain ⟨z, z1, z2⟩ := hx.mulh hy hM h60
 exact ⟨z, z1, er_of hM.nonneg z2⟩
theorem Rv.ord {k : FloatKind} {q r : Rat} {x y : F} (hx : Rv k q x) (hy : Rv k r y) : flt k x y = decide (q < r) ∧ fle k x y = decide (q ≤ r) ∧ feq k x y = decide (q = r) := by
 obtain ⟨n, h1, h2⟩ := hx
 obtain ⟨m, g1, g2⟩ := hy
 have hP := p2 (lpn k)
 rw [h1.flt g1, h1.fle g1, h1.feq g1]
 have a1 : n < m ↔ q < r := by
  constructor
  ·intro h
   have : (n : Rat) < (m : Rat) := by exact_mod_cast h
   rw [h2, g2] at this
   exact Rat.lt_of_mul_lt_mul_right this (Rat.le_of_lt hP)
  ·intro h
   have : (n : Rat) < (m : Rat) := by rw [h2, g2]; exact Rat.mul_lt_mul_of_pos_right h hP
   exact_mod_cast this
 have a2 : m < n ↔ r < q := by
  constructor
  ·intro h
   have : (m : Rat) < (n : Rat) := by exact_mod_cast h
   rw [h2, g2] at this
   exact Rat.lt_of_mul_lt_mul_right this (Rat.le_of_lt hP)
  ·intro h
   have : (m : Rat) < (n : Rat) := by rw [h2, g2]; exact Rat.mul_lt_mul_of_pos_right h hP
   exact_mod_cast this
 refine ⟨decide_eq_decide.2 a1, decide_eq_decide.2 ?_, decide_eq_decide.2 ?_⟩
 ·rw [← Int.not_lt, a2, Rat.not_lt]
 ·constructor
  ·intro h; subst h
   have h3 : ¬ q < r := fun h => by have := a1.2 h; omega
   have h4 : ¬ r < q := fun h => by have := a2.2 h; omega
   exact Rat.le_antisymm (Rat.not_lt.1 h4) (Rat.not_lt.1 h3)
  ·intro h; subst h
   have h3 : ¬ n < m := fun h => by have := a1.1 h; grind
   have h4 : ¬ m < n := fun h => by have := a2.1 h; grind
   omega
theorem Rv.widen {q : Rat} {x : F} (h : Rv .f32 q x) : Rv .f64 q (fwiden x) := by
 obtain ⟨n, h1, h2⟩ := h
 have := Rv.of_dy h1.widen
 have e : (n : Rat) / 2 ^ lpn .f32 = q := by have := p2 (lpn .f32); grind
 rw [e] at this; exact this
theorem Rv.narrow {q M : Rat} {x : F} (hx : Rv .f64 q x) (hM : Ab q M) (h60 : M ≤ 2 ^ 60) : ∃ z y, fnarrow x = some y ∧ Rv .f32 z y ∧ Ab (z - q) (er .f32 M) := by
 obtain ⟨b, s, m, a, u, rfl, e1, u0, u1, u2, h1⟩ := hx.read
 have e1 : double.read b = .number s m (-1074 + (a : Int)) := e1
 have huM : u ≤ M := by
  rw [u2] at hM
  unfold sg at hM
  obtain ⟨h1, h2⟩ := hM
  cases s <;> simp at h1 h2 <;> grind
 obtain ⟨z, z1, _, z2⟩ := rv_near (k := .f32) (s := s) (m := m) (p := -1074 + (a : Int)) (b := 925) (c := a) (u := u) (M := M) (by rw [lpn_eq]; show -1074 + (a : Int) + 925 = -149 + (a : Int); omega) (by
  have : lpn .f32 + 925 = lpn .f64 := by decide
  rw [this]; exact u1) huM h60
 refine ⟨sg s z, some (single.nearest s m (-1074 + (a : Int))), ?_, z1, by rw [u2, sg_sub]; exact (er_of hM.nonneg z2).sg⟩
 have hd : FloatKind.f64.decode b = .number s m (-1074 + (a : Int)) := e1
 unfold fnarrow
 simp only
 rw [hd]
 simp only
 rw [if_neg]
 ·rfl
 ·obtain ⟨c, t, n, d, w, e, e2, _⟩ := z1.read
  cases e
  show ¬ (single.read (single.nearest s m (-1074 + (a : Int)))).isInfinity = true
  have e2 : single.read (single.nearest s m (-1074 + (a : Int))) = _ := e2
  rw [e2]; simp [Datum.isInfinity]
theorem quo_near (f : Format) {m n : Nat} (hm : m ≠ 0) (hn : n ≠ 0) {more : Nat} (hmo : f.fractionBits + 2 + n.log2 - m.log2 = more) :
  ∃ W, W = 2 * (m * 2 ^ more / n) + (m * 2 ^ more % n != 0).toNat ∧ n * W ≤ 2 * (m * 2 ^ more) + n ∧ 2 * (m * 2 ^ more) ≤ n * W + n ∧ n * 2 ^ (f.fractionBits + 2) ≤ 2 * (m * 2 ^ more) := by
 refine ⟨_, rfl, ?_⟩
 have hdm := Nat.div_add_mod (m * 2 ^ more) n
 have hlt := Nat.mod_lt (m * 2 ^ more) (Nat.pos_of_ne_zero hn)
 have hlog : m.log2 + more = (m * 2 ^ more).log2 := (log2_mul_pow hm).symm
 have h0 : m * 2 ^ more ≠ 0 := Nat.mul_ne_zero hm (Nat.ne_of_gt (Nat.two_pow_pos _))
 have h1 : 2 ^ (m * 2 ^ more).log2 ≤ m * 2 ^ more := Nat.log2_self_le h0
 have h2 : n < 2 ^ (n.log2 + 1) := Nat.lt_log2_self
 have h3 : 2 ^ (f.fractionBits + 2 + n.log2) ≤ m * 2 ^ more := Nat.le_trans (Nat.pow_le_pow_right (by decide) (by omega)) h1
 have h4 : n * 2 ^ (f.fractionBits + 2) ≤ 2 * 2 ^ (f.fractionBits + 2 + n.log2) := by
  have : n * 2 ^ (f.fractionBits + 2) ≤ 2 ^ (n.log2 + 1) * 2 ^ (f.fractionBits + 2) := Nat.mul_le_mul_right _ (Nat.le_of_lt h2)
  rw [← Nat.pow_add, show n.log2 + 1 + (f.fractionBits + 2) = 1 + (f.fractionBits + 2 + n.log2) from by omega, Nat.pow_add 2 1, Nat.pow_one] at this
  exact this
 generalize m * 2 ^ more = D at *
 generalize D / n = Q at *
 generalize D % n = R at *
 have e : n * (2 * Q + (R != 0).toNat) = 2 * (n * Q) + n * (R != 0).toNat := by
  rw [Nat.mul_add, ← Nat.mul_assoc, Nat.mul_comm n 2, Nat.mul_assoc]
 rw [e]
 by_cases hR : R = 0
 ·have : (R != 0).toNat = 0 := by simp [hR]
  rw [this]; omega
 ·have : (R != 0).toNat = 1 := by simp [hR]
  rw [this]; omega
theorem quo_alg {N A F e v T S : Rat} (i4 : N * (4 * F) * A * e ≤ S * A * e) (hvT : v * (N * T) = S * A) (hep : e * F = 1) : N * A ≤ v * e / 4 * (N * T) := by
 have l1 : N * (4 * F) * A * e = 4 * (N * A) * (e * F) := by grind
 have l2 : S * A * e = v * e * (N * T) := by rw [← hvT]; grind
 rw [l1, l2, hep] at i4
 grind
theorem quo_d1 {N A S W v y T e : Rat} (i1 : N * W * A ≤ (S + N) * A) (hvT : v * (N * T) = S * A) (hyT : y * (N * T) = N * W * A) (i5 : N * A ≤ v * e / 4 * (N * T)) : (y - v) * (N * T) ≤ v * e / 4 * (N * T) := by
 rw [show (y - v) * (N * T) = y * (N * T) - v * (N * T) from by grind, hyT, hvT]; grind
theorem quo_d2 {N A S W v y T e : Rat} (i2 : S * A ≤ (N * W + N) * A) (hvT : v * (N * T) = S * A) (hyT : y * (N * T) = N * W * A) (i5 : N * A ≤ v * e / 4 * (N * T)) : -(v * e / 4) * (N * T) ≤ (y - v) * (N * T) := by
 rw [show (y - v) * (N * T) = y * (N * T) - v * (N * T) from by grind, hyT, hvT]; grind
theorem Rv.quo {k : FloatKind} {q r M : Rat} {x y : F} (hx : Rv k q x) (hy : Rv k r y) (hr0 : r ≠ 0) (hM : Ab (q / r) M) (h60 : M ≤ 2 ^ 50) : ∃ z, Rv k z (fop .quo k x y) ∧ Ab (z - q / r) (er k M) := by
 obtain ⟨b, s, m, a, u, rfl, e1, u0, u1, u2, h1⟩ := hx.read
 obtain ⟨c, t, n, d, w, rfl, e2, w0, w1, w2, h2⟩ := hy.read
 have hP := p2 (lpn k)
 have hF := p2 (k.format.fractionBits)
 have hw : w ≠ 0 := fun h => hr0 (by rw [w2, h, sg_zero])
 have hw' : 0 < w := by
  by_cases h : 0 < w
  ·exact h
  ·exact absurd (Rat.le_antisymm (Rat.not_lt.1 h) w0) hw
 have hn : n ≠ 0 := by
  intro h; subst h
  rcases Rat.mul_eq_zero.1 (show w * 2 ^ lpn k = 0 by rw [w1]; simp) with h | h
  ·exact hw h
  ·rw [h] at hP; exact absurd hP (by decide)
 have hqr : q / r = sg (s ^^ t) (u / w) := by
  rw [u2, w2]; unfold sg; cases s <;> cases t <;> simp <;> grind
 have uw0 : 0 ≤ u / w := div_nonneg hw' u0
 have huM : u / w ≤ M := by
  rw [hqr] at hM
  unfold sg at hM
  obtain ⟨h1, h2⟩ := hM
  cases hb : (s ^^ t) <;> rw [hb] at h1 h2 <;> simp at h1 h2 <;> grind
 generalize hmo : k.format.fractionBits + 2 + n.log2 - m.log2 = more
 have e : fop .quo k (some b) (some c) = some (k.format.nearest (s ^^ t) (2 * (m * 2 ^ more / n) + (m * 2 ^ more % n != 0).toNat) (k.format.leastPlace + (a : Int) - (k.format.leastPlace + (d : Int)) - (more : Int) - 1)) := by
  show k.format.div b c = _
  unfold Format.div
  rw [e1, e2]
  simp only [Datum.quotient, hn, if_false, Option.map_some, hmo, Nat.shiftLeft_eq]
  rfl
 rw [e]
 by_cases hm : m = 0
 ·have hu : u = 0 := by
   rcases Rat.mul_eq_zero.1 (show u * 2 ^ lpn k = 0 by rw [u1, hm]; simp) with h | h
   ·exact h
   ·rw [h] at hP; exact absurd hP (by decide)
  refine ⟨sg (s ^^ t) 0, ?_, ?_⟩
  ·subst hm
   have := rv_word (k := k) (s := s ^^ t) (r := 0) (by cases k <;> decide)
   rw [rval_zero, show ((0 : Nat) : Rat) / 2 ^ lpn k = 0 from by grind] at this
   simp only [Nat.zero_mul, Nat.zero_div, Nat.zero_mod, Nat.mul_zero]
   unfold Format.nearest
   rw [if_pos (by decide)]; exact this
  ·rw [hqr, sg_sub, hu]
   refine Ab.sg ?_
   have h1 := Rat.mul_nonneg hM.nonneg (Rat.le_of_lt (ep_pos k))
   have h2 := et_pos k
   unfold er
   have : (0 : Rat) - 0 / w = 0 := by grind
   rw [this]
   exact ⟨by grind, by grind⟩
 obtain ⟨W, eW, k1, k2, k3⟩ := quo_near k.format hm hn hmo
 rw [← eW]
 -- the approximate quotient
 have hN : (0 : Rat) < (n : Rat) := by exact_mod_cast Nat.pos_of_ne_zero hn
 have k1' : (n : Rat) * W ≤ 2 * (m * 2 ^ more) + n := by exact_mod_cast k1
 have k2' : (2 : Rat) * (m * 2 ^ more) ≤ n * W + n := by exact_mod_cast k2
 have k3' : (n : Rat) * 2 ^ (k.format.fractionBits + 2) ≤ 2 * (m * 2 ^ more) := by exact_mod_cast k3
 have hT := p2 (d + more + 1)
 have hA := p2 a
 have hMo := p2 more
 have hD := p2 d
 have pT : (2 : Rat) ^ (d + more + 1) = 2 ^ d * 2 ^ more * 2 := by rw [rpow_add, rpow_add]; grind
 -- y = W * 2^a / 2^T
 let y : Rat := (W : Rat) * 2 ^ a / 2 ^ (d + more + 1)
 have hy : y * 2 ^ (d + more + 1) = (W : Rat) * 2 ^ a := div_mul_pos hT
 have hv : u / w * ((n : Rat) * 2 ^ d) = (m : Rat) * 2 ^ a := by
  have : u / w * w = u := div_mul_pos hw'
  have h3 : u / w * (w * 2 ^ lpn k) = u * 2 ^ lpn k := by grind
  rw [w1, u1] at h3; exact h3
 generalize u / w = v at *
 generalize hyy : y = yy at *
 have hvT : v * (n * 2 ^ (d + more + 1)) = 2 * (m * 2 ^ more) * 2 ^ a := by rw [pT]; grind
 have hyT : yy * (n * 2 ^ (d + more + 1)) = n * W * 2 ^ a := by grind
 have hnT : (0 : Rat) < n * 2 ^ (d + more + 1) := Rat.mul_pos hN hT
 -- |yy - v| * n * 2^T ≤ n * 2^a, and v * n * 2^T ≥ n * 2^(fb+2) * 2^a
 have hx4 : (2 : Rat) ^ (k.format.fractionBits + 2) = 4 * 2 ^ k.format.fractionBits := by rw [rpow_add]; grind
 have hep : ep k * 2 ^ k.format.fractionBits = 1 := div_mul_pos hF
 have i1 := Rat.mul_le_mul_of_nonneg_right k1' (Rat.le_of_lt hA)
 have i2 := Rat.mul_le_mul_of_nonneg_right k2' (Rat.le_of_lt hA)
 have i3 := Rat.mul_le_mul_of_nonneg_right k3' (Rat.le_of_lt hA)
 have hep0 := ep_pos k
 have i4 := Rat.mul_le_mul_of_nonneg_right i3 (Rat.le_of_lt hep0)
 have i5 : (n : Rat) * 2 ^ a ≤ v * ep k / 4 * (n * 2 ^ (d + more + 1)) := by
  rw [hx4] at i4
  exact quo_alg i4 hvT hep
 have dv : Ab (yy - v) (v * ep k / 4) := by
  constructor
  ·exact Rat.le_of_mul_le_mul_right (c := n * 2 ^ (d + more + 1)) (quo_d2 i2 hvT hyT i5) hnT
  ·exact Rat.le_of_mul_le_mul_right (c := n * 2 ^ (d + more + 1)) (quo_d1 i1 hvT hyT i5) hnT
 have hM0 := hM.nonneg
 have hep1 : ep k ≤ 1 := by cases k <;> decide +kernel
 have vep : v * ep k ≤ M * ep k := Rat.mul_le_mul_of_nonneg_right huM (Rat.le_of_lt hep0)
 have vep1 : M * ep k ≤ M * 1 := Rat.mul_le_mul_of_nonneg_left hep1 hM0
 have v0 : 0 ≤ v * ep k := Rat.mul_nonneg uw0 (Rat.le_of_lt hep0)
 have hyM : yy ≤ M + M * ep k / 4 := by have := dv.2; grind
 obtain ⟨z, z1, _, z2⟩ := rv_near (k := k) (s := s ^^ t) (m := W) (p := k.format.leastPlace + (a : Int) - (k.format.leastPlace + (d : Int)) - (more : Int) - 1) (b := d + more + 1) (c := a + lpn k) (u := yy) (M := M + M * ep k / 4) (by have := lpn_eq k; omega) (by
  rw [rpow_add (lpn k), rpow_add a]; grind) hyM (by
  have e50 : (2 : Rat) ^ 50 = 1125899906842624 := by decide +kernel
  have e60 : (2 : Rat) ^ 60 = 1152921504606846976 := by decide +kernel
  rw [e50] at h60
  rw [e60]
  clear i1 i2 i3 i4 i5 k1' k2' k3' hvT hyT hy hv u1 w1 pT
  grind)
 refine ⟨sg (s ^^ t) z, z1, ?_⟩
 rw [hqr, sg_sub]
 refine Ab.sg ?_
 have : z - v = (z - yy) + (yy - v) := by grind
 rw [this]
 refine (z2.add dv).mono ?_
 rw [half_pow, half_pow]
 show (M + M * ep k / 4) * (ep k / 2) + et k / 2 + v * ep k / 4 ≤ M * ep k + et k
 have h2 := et_pos k
 have h3 : M * ep k * ep k ≤ M * ep k * 1 := Rat.mul_le_mul_of_nonneg_left hep1 (Rat.mul_nonneg hM0 (Rat.le_of_lt hep0))
 grind
theorem rootFrom_ok (n : Nat) : ∀ (t r : Nat), r * r ≤ n → n < (r + 2 ^ t) * (r + 2 ^ t) → Datum.rootFrom n t r * Datum.rootFrom n t r ≤ n ∧ n < (Datum.rootFrom n t r + 1) * (Datum.rootFrom n t r + 1)
 | 0, r, h1, h2 => by
  simp only [Datum.rootFrom]
  exact ⟨h1, by simpa using h2⟩
 | t + 1, r, h1, h2 => by
  unfold Datum.rootFrom
  simp only
  rw [Nat.one_shiftLeft]
  have hp : 2 ^ (t + 1) = 2 ^ t + 2 ^ t := by rw [Nat.pow_succ]; omega
  rw [hp, ← Nat.add_assoc] at h2
  split
  ·rename_i h; exact rootFrom_ok n t _ h h2
  ·rename_i h; exact rootFrom_ok n t _ h1 (by omega)
theorem root_whole {n : Nat} : Datum.rootFrom n (n.log2 / 2 + 1) 0 * Datum.rootFrom n (n.log2 / 2 + 1) 0 ≤ n ∧ n < (Datum.rootFrom n (n.log2 / 2 + 1) 0 + 1) * (Datum.rootFrom n (n.log2 / 2 + 1) 0 + 1) := by
 refine rootFrom_ok n _ 0 (by omega) ?_
 have h1 : n < 2 ^ (n.log2 + 1) := Nat.lt_log2_self
 rw [Nat.zero_add, ← Nat.pow_add]
 exact Nat.lt_of_lt_of_le h1 (Nat.pow_le_pow_right (by decide) (by omega))
theorem root_sq {n W : Nat} (h1 : W * W ≤ n) (h2 : n < (W + 1) * (W + 1)) (h3 : 2 ^ 108 ≤ n) :
  (2 * W + (W * W != n).toNat) * (2 * W + (W * W != n).toNat) ≤ 4 * n + 4 * W ∧ 4 * n ≤ (2 * W + (W * W != n).toNat) * (2 * W + (W * W != n).toNat) + 4 * W ∧ W * 2 ^ 53 ≤ n := by
 have hW : 2 ^ 53 ≤ W := by
  rcases Nat.lt_or_ge W (2 ^ 53) with h | h
  ·have : (W + 1) * (W + 1) ≤ 2 ^ 53 * 2 ^ 53 := Nat.mul_le_mul h h
   have e : (2 : Nat) ^ 53 * 2 ^ 53 = 2 ^ 106 := by decide
   have e2 : (2 : Nat) ^ 106 < 2 ^ 108 := by decide
   omega
  ·exact h
 have e2 : (W + 1) * (W + 1) = W * W + 2 * W + 1 := by rw [Nat.add_mul, Nat.mul_add]; omega
 rw [e2] at h2
 refine ⟨?_, ?_, Nat.le_trans (Nat.mul_le_mul_left W hW) h1⟩
 ·by_cases h : W * W = n
  ·have : (W * W != n).toNat = 0 := by simp [h]
   rw [this, Nat.add_zero, show 2 * W * (2 * W) = 4 * (W * W) from by rw [Nat.mul_mul_mul_comm]]; omega
  ·have : (W * W != n).toNat = 1 := by simp [h]
   rw [this, show (2 * W + 1) * (2 * W + 1) = 4 * (W * W) + 4 * W + 1 from by rw [Nat.add_mul, Nat.mul_add, Nat.mul_mul_mul_comm]; omega]; omega
 ·by_cases h : W * W = n
  ·have : (W * W != n).toNat = 0 := by simp [h]
   rw [this, Nat.add_zero, show 2 * W * (2 * W) = 4 * (W * W) from by rw [Nat.mul_mul_mul_comm]]; omega
  ·have : (W * W != n).toNat = 1 := by simp [h]
   rw [this, show (2 * W + 1) * (2 * W + 1) = 4 * (W * W) + 4 * W + 1 from by rw [Nat.add_mul, Nat.mul_add, Nat.mul_mul_mul_comm]; omega]; omega
theorem sq_alg {X N V W q w p53 : Rat} (hX : 0 ≤ X) (hq : q = N * X) (hw : 4 * (w * w) = V * X) (k1 : V ≤ 4 * N + 4 * W) (k2 : 4 * N ≤ V + 4 * W) (k3 : W * p53 ≤ N) (hp : p53 = 2 ^ 53) : Ab (w * w - q) (q / 2 ^ 53) := by
 have a1 := Rat.mul_le_mul_of_nonneg_right k1 hX
 have a2 := Rat.mul_le_mul_of_nonneg_right k2 hX
 have a3 := Rat.mul_le_mul_of_nonneg_right k3 hX
 have e : (2 : Rat) ^ 53 = 9007199254740992 := by decide +kernel
 rw [e] at hp ⊢
 subst hp
 constructor <;> grind
theorem Rv.sqrt {q : Rat} {x : F} (hx : Rv .f64 q x) (h0 : 0 < q) (h1 : q ≤ 2 ^ 40) : ∃ w z, Rv .f64 z (fsqrt x) ∧ 0 ≤ w ∧ Ab (w * w - q) (q / 2 ^ 53) ∧ Ab (z - w) (er .f64 w) := by
 obtain ⟨b, s, m, a, u, rfl, e1, u0, u1, u2, _⟩ := hx.read
 have hP := p2 (lpn .f64)
 have hs : s = false := by
  cases s with
  | false => rfl
  | true => unfold sg at u2; simp at u2; grind
 subst hs
 have u2 : q = u := by rw [u2]; unfold sg; simp
 subst u2
 have hm : m ≠ 0 := by
  intro h; subst h
  rcases Rat.mul_eq_zero.1 (show q * 2 ^ lpn .f64 = 0 by rw [u1]; simp) with h | h
  ·grind
  ·rw [h] at hP; exact absurd hP (by decide)
 have e1 : double.read b = .number false m (-1074 + (a : Int)) := e1
 have u1 : q * 2 ^ 1074 = (m : Rat) * 2 ^ a := u1
 generalize hmo : 2 * (double.fractionBits + 2) - m.log2 = mo
 generalize hmo2 : mo + ((-1074 + (a : Int) - (mo : Int)) % 2).toNat = more
 generalize hn : m <<< more = n
 have hmo' : 2 * 54 - m.log2 = mo := hmo
 have hml : more ≤ 109 := by omega
 have hev : (-1074 + (a : Int) - (more : Int)) % 2 = 0 := by omega
 obtain ⟨w1, w2⟩ := root_whole (n := n)
 have e : fsqrt (some b) = some (double.nearest false (2 * Datum.rootFrom n (n.log2 / 2 + 1) 0 + (Datum.rootFrom n (n.log2 / 2 + 1) 0 * Datum.rootFrom n (n.log2 / 2 + 1) 0 != n).toNat) ((-1074 + (a : Int) - (more : Int)) / 2 - 1)) := by
  show double.sqrt b = _
  unfold Format.sqrt
  rw [e1]
  simp only [Datum.root, hm, if_false, hmo, hmo2, hn]
  rfl
 rw [e]
 generalize Datum.rootFrom n (n.log2 / 2 + 1) 0 = W at *
 have hn' : n = m * 2 ^ more := by rw [← hn, Nat.shiftLeft_eq]
 have h108 : 2 ^ 108 ≤ n := by
  have : 2 ^ m.log2 ≤ m := Nat.log2_self_le hm
  have h2 := Nat.mul_le_mul_right (2 ^ more) this
  rw [← Nat.pow_add, ← hn'] at h2
  exact Nat.le_trans (Nat.pow_le_pow_right (by decide) (by omega)) h2
 obtain ⟨k1, k2, k3⟩ := root_sq w1 w2 h108
 generalize 2 * W + (W * W != n).toNat = V at *
 generalize hE : (-1074 + (a : Int) - (more : Int)) / 2 = E at *
 obtain ⟨c, hc⟩ : ∃ c : Nat, E - 1 + 1074 = (c : Int) := ⟨(E - 1 + 1074).toNat, by omega⟩
 obtain ⟨t, ht⟩ : ∃ t : Nat, a + 1074 = more + t := ⟨a + 1074 - more, by omega⟩
 have hct : 2 * c + 2 = t := by omega
 have hp74 : (0 : Rat) < 2 ^ 1074 := p2 1074
 have hq1 : q * (2 ^ 1074 * 2 ^ 1074) = (n : Rat) * 2 ^ t := by
  have : (m : Rat) * 2 ^ (a + 1074) = n * 2 ^ t := by
   rw [ht, hn', rpow_add]; push_cast; grind
  rw [rpow_add] at this
  generalize (2 : Rat) ^ 1074 = Z at *
  grind
 have hw1 : ((V : Rat) * 2 ^ c / 2 ^ 1074) * 2 ^ 1074 = (V : Rat) * 2 ^ c := div_mul_pos hp74
 have hw0 : 0 ≤ (V : Rat) * 2 ^ c / 2 ^ 1074 := div_nonneg hp74 (Rat.mul_nonneg (by exact_mod_cast Nat.zero_le V) (Rat.le_of_lt (p2 c)))
 generalize (V : Rat) * 2 ^ c / 2 ^ 1074 = w at *
 have h4 : (2 : Rat) ^ t = 4 * (2 ^ c * 2 ^ c) := by
  rw [← hct, rpow_add, show 2 * c = c + c from by omega, rpow_add]; grind
 have hww : Ab (w * w - q) (q / 2 ^ 53) := by
  have hZ : (0 : Rat) < 2 ^ 1074 * 2 ^ 1074 := Rat.mul_pos hp74 hp74
  refine sq_alg (X := 2 ^ t / (2 ^ 1074 * 2 ^ 1074)) (N := (n : Rat)) (V := (V : Rat) * V) (W := (W : Rat)) (p53 := 2 ^ 53) (div_nonneg hZ (Rat.le_of_lt (p2 t))) ?_ ?_ (by exact_mod_cast k1) (by exact_mod_cast k2) (by exact_mod_cast k3) rfl
  ·have : q = (n : Rat) * 2 ^ t / (2 ^ 1074 * 2 ^ 1074) := by rw [← hq1]; generalize (2 : Rat) ^ 1074 * 2 ^ 1074 = Z at *; grind
   rw [this]; generalize (2 : Rat) ^ 1074 * 2 ^ 1074 = Z at *; grind
  ·have h5 : w * w * (2 ^ 1074 * 2 ^ 1074) = V * V * (2 ^ c * 2 ^ c) := by
    generalize (2 : Rat) ^ 1074 = Z at *
    rw [show w * w * (Z * Z) = (w * Z) * (w * Z) from by grind, hw1]; grind
   have h6 : w * w = V * V * (2 ^ c * 2 ^ c) / (2 ^ 1074 * 2 ^ 1074) := by rw [← h5]; generalize (2 : Rat) ^ 1074 * 2 ^ 1074 = Z at *; grind
   rw [h6, h4]; generalize (2 : Rat) ^ 1074 * 2 ^ 1074 = Z at *; grind
 have hw60 : w ≤ 2 ^ 60 := by
  by_cases h : w ≤ 2 ^ 60
  ·exact h
  ·exfalso
   have h2 : (2 : Rat) ^ 60 < w := Rat.not_le.1 h
   have h3 := hww.2
   have e40 : (2 : Rat) ^ 40 = 1099511627776 := by decide +kernel
   have e53 : (2 : Rat) ^ 53 = 9007199254740992 := by decide +kernel
   have e60 : (2 : Rat) ^ 60 = 1152921504606846976 := by decide +kernel
   rw [e40] at h1
   rw [e53] at h3
   rw [e60] at h2
   have := Rat.mul_le_mul_of_nonneg_left (a := (1152921504606846976 : Rat)) (b := w) (c := w) (Rat.le_of_lt h2) hw0
   grind
 obtain ⟨z, z1, _, z2⟩ := rv_near (k := .f64) (s := false) (m := V) (p := E - 1) (b := 0) (c := c) (u := w) (M := w) (by rw [lpn_eq]; show E - 1 + ((0 : Nat) : Int) = -1074 + (c : Int); omega) (by rw [Nat.add_zero]; exact hw1) Rat.le_refl hw60
 refine ⟨w, z, ?_, hw0, hww, er_of hw0 z2⟩
 have : sg false z = z := by unfold sg; simp
 rw [this] at z1
 exact z1
theorem root_alg {q w z y : Rat} (h0 : 1 / 4 ≤ q) (hw0 : 0 ≤ w) (hw : Ab (w * w - q) (q / 9007199254740992)) (h1 : Ab (y - w) (w / 4503599627370496 + 1 / 1000000000000000)) (h2 : Ab (z - y) ((w + 1 / 1000) / 8388608 + 1 / 1000000000000000)) : 0 ≤ z ∧ Ab (z * z - q) (q / 1048576) := by
 obtain ⟨a1, a2⟩ := hw
 obtain ⟨b1, b2⟩ := h1
 obtain ⟨c1, c2⟩ := h2
 have hw2 : 2 / 5 ≤ w := by
  by_cases h : 2 / 5 ≤ w
  ·exact h
  ·have h3 : w < 2 / 5 := Rat.not_le.1 h
   have h4 : w * w ≤ w * (2 / 5) := Rat.mul_le_mul_of_nonneg_left (Rat.le_of_lt h3) hw0
   grind
 have hd : Ab (z - w) (w / 4194304) := ⟨by grind, by grind⟩
 obtain ⟨d1, d2⟩ := hd
 have hz : 0 ≤ z := by grind
 refine ⟨hz, ?_⟩
 have e : z * z - q = (w * w - q) + (z - w) * (z + w) := by grind
 have hs : Ab (z + w) (w * 3) := ⟨by grind, by grind⟩
 have hm := Ab.mul ⟨d1, d2⟩ hs
 rw [e]
 have ww : w * w ≤ q * (1 + 1 / 9007199254740992) := by grind
 have hww : w / 4194304 * (w * 3) = w * w * (3 / 4194304) := by grind
 rw [hww] at hm
 obtain ⟨m1, m2⟩ := hm
 exact ⟨by grind, by grind⟩
theorem Rv.root {q : Rat} {x : F} (hx : Rv .f32 q x) (h0 : 1 / 4 ≤ q) (h1 : q ≤ 1048576) : ∃ z, Rv .f32 z (rootN x) ∧ 0 ≤ z ∧ Ab (z * z - q) (q / 1048576) := by
 have e40 : (2 : Rat) ^ 40 = 1099511627776 := by decide +kernel
 have e60 : (2 : Rat) ^ 60 = 1152921504606846976 := by decide +kernel
 obtain ⟨w, y, y1, w0, y2, y3⟩ := (hx.widen).sqrt (by grind) (by rw [e40]; grind)
 have e53 : (2 : Rat) ^ 53 = 9007199254740992 := by decide +kernel
 rw [e53] at y2
 have ep64 : ep .f64 = 1 / 4503599627370496 := by decide +kernel
 have ep32 : ep .f32 = 1 / 8388608 := by decide +kernel
 have et64 : et .f64 ≤ 1 / 1000000000000000 := by decide +kernel
 have et32 : et .f32 ≤ 1 / 1000000000000000 := by decide +kernel
 have y3' : Ab (y - w) (w / 4503599627370496 + 1 / 1000000000000000) := y3.mono (by unfold er; rw [ep64]; grind)
 have w4 : w ≤ 1048577 := by
  by_cases h : w ≤ 1048577
  ·exact h
  ·exfalso
   have h2 : 1048577 < w := Rat.not_le.1 h
   have := Rat.mul_le_mul_of_nonneg_left (a := (1048577 : Rat)) (b := w) (c := w) (Rat.le_of_lt h2) w0
   have h3 := y2.2
   grind
 have hy : Ab y (w + 1 / 1000) := ⟨by have := y3'.1; grind, by have := y3'.2; grind⟩
 obtain ⟨z, c, c1, c2, c3⟩ := y1.narrow hy (by rw [e60]; grind)
 have c3' : Ab (z - y) ((w + 1 / 1000) / 8388608 + 1 / 1000000000000000) := c3.mono (by unfold er; rw [ep32]; grind)
 obtain ⟨r1, r2⟩ := root_alg h0 w0 y2 y3' c3'
 refine ⟨z, ?_, r1, r2⟩
 unfold rootN
 rw [c1]; exact c2
def Fv (x : F) : Prop := ∃ q, Rv .f32 q x
open Classical in
noncomputable def vl (x : F) : Rat := if h : Fv x then h.choose else 0
theorem Fv.rv {x : F} (h : Fv x) : Rv .f32 (vl x) x := by
 unfold vl
 rw [dif_pos h]; exact h.choose_spec
theorem Rv.fv {q : Rat} {x : F} (h : Rv .f32 q x) : Fv x := ⟨q, h⟩
theorem Rv.vl {q : Rat} {x : F} (h : Rv .f32 q x) : vl x = q := (Fv.rv ⟨q, h⟩).uniq h
theorem Fv.fok {x : F} (h : Fv x) : FOk .f32 x := h.rv.fok
theorem Fv.fin {x : F} (h : Fv x) : fin32 x = true := by
 obtain ⟨n, h, _⟩ := h.rv; exact h.fin
theorem Dy.fv {s : Nat} {n : Int} {x : F} (h : Dy .f32 s n x) : Fv x ∧ vl x = (n : Rat) / 2 ^ s := ⟨(Rv.of_dy h).fv, (Rv.of_dy h).vl⟩
def e32 (M : Rat) : Rat := M / 8388608 + 1 / 1000000000000000
theorem er_le (M : Rat) : er .f32 M ≤ e32 M := by
 have ep32 : ep .f32 = 1 / 8388608 := by decide +kernel
 have et32 : et .f32 ≤ 1 / 1000000000000000 := by decide +kernel
 unfold er e32; rw [ep32]; grind
theorem big50 {M : Rat} (h : M ≤ 1000000000) : M ≤ 2 ^ 50 := by
 have : (2 : Rat) ^ 50 = 1125899906842624 := by decide +kernel
 rw [this]; grind
theorem big60 {M : Rat} (h : M ≤ 1000000000) : M ≤ 2 ^ 60 := by
 have : (2 : Rat) ^ 60 = 1152921504606846976 := by decide +kernel
 rw [this]; grind
theorem fv_add {x y : F} {M : Rat} (hx : Fv x) (hy : Fv y) (hM : Ab (vl x + vl y) M) (h : M ≤ 1000000000) : Fv (fop .add .f32 x y) ∧ Ab (vl (fop .add .f32 x y) - (vl x + vl y)) (e32 M) := by
 obtain ⟨z, z1, z2⟩ := hx.rv.add hy.rv hM (big60 h)
 exact ⟨z1.fv, by rw [z1.vl]; exact z2.mono (er_le M)⟩
theorem fv_sub {x y : F} {M : Rat} (hx : Fv x) (hy : Fv y) (hM : Ab (vl x - vl y) M) (h : M ≤ 1000000000) : Fv (fop .sub .f32 x y) ∧ Ab (vl (fop .sub .f32 x y) - (vl x - vl y)) (e32 M) := by
 obtain ⟨z, z1, z2⟩ := hx.rv.sub hy.rv hM (big60 h)
 exact ⟨z1.fv, by rw [z1.vl]; exact z2.mono (er_le M)⟩
theorem fv_mul {x y : F} {M : Rat} (hx : Fv x) (hy : Fv y) (hM : Ab (vl x * vl y) M) (h : M ≤ 1000000000) : Fv (fop .mul .f32 x y) ∧ Ab (vl (fop .mul .f32 x y) - vl x * vl y) (e32 M) := by
 obtain ⟨z, z1, z2⟩ := hx.rv.mul hy.rv hM (big60 h)
 exact ⟨z1.fv, by rw [z1.vl]; exact z2.mono (er_le M)⟩
def h32 (M : Rat) : Rat := M / 16777216 + 1 / 1000000000000000
theorem h32_le (M : Rat) : eh .f32 M ≤ h32 M := by
 have e1 : (1 : Rat) / 2 ^ (FloatKind.f32.format.fractionBits + 1) = 1 / 16777216 := by decide +kernel
 have e2 : (1 : Rat) / 2 ^ (lpn .f32 + 1) ≤ 1 / 1000000000000000 := by decide +kernel
 unfold eh h32; rw [e1]; grind
theorem fv_addh {x y : F} {M : Rat} (hx : Fv x) (hy : Fv y) (hM : Ab (vl x + vl y) M) (h : M ≤ 1000000000) : Fv (fop .add .f32 x y) ∧ Ab (vl (fop .add .f32 x y) - (vl x + vl y)) (h32 M) := by
 obtain ⟨z, z1, z2⟩ := hx.rv.addh hy.rv hM (big60 h)
 exact ⟨z1.fv, by rw [z1.vl]; exact z2.mono (h32_le M)⟩
theorem fv_quo {x y : F} {M : Rat} (hx : Fv x) (hy : Fv y) (h0 : vl y ≠ 0) (hM : Ab (vl x / vl y) M) (h : M ≤ 1000000000) : Fv (fop .quo .f32 x y) ∧ Ab (vl (fop .quo .f32 x y) - vl x / vl y) (e32 M) := by
 obtain ⟨z, z1, z2⟩ := hx.rv.quo hy.rv h0 hM (big50 h)
 exact ⟨z1.fv, by rw [z1.vl]; exact z2.mono (er_le M)⟩
theorem fv_zero : Fv (some 0) ∧ vl (some 0) = 0 := by
 have := (Dy.zero .f32 (s := 0) (by decide)).fv
 rw [show ((0 : Int) : Rat) / 2 ^ 0 = 0 from by decide +kernel] at this; exact this
theorem fv_lt {x y : F} (hx : Fv x) (hy : Fv y) : flt .f32 x y = decide (vl x < vl y) := (hx.rv.ord hy.rv).1
theorem fv_le {x y : F} (hx : Fv x) (hy : Fv y) : fle .f32 x y = decide (vl x ≤ vl y) := (hx.rv.ord hy.rv).2.1
theorem fv_eq {x y : F} (hx : Fv x) (hy : Fv y) : feq .f32 x y = decide (vl x = vl y) := (hx.rv.ord hy.rv).2.2
theorem fv_submul {y a b : F} {P M e : Rat} (hy : Fv y) (ha : Fv a) (hb : Fv b) (hP : Ab (vl a * vl b) P) (hM : Ab (vl y - vl a * vl b) M) (hP1 : P ≤ 1000000) (hM1 : M ≤ 1000000) (he : e32 P + e32 (M + e32 P) ≤ e) : Fv (fop .sub .f32 y (fop .mul .f32 a b)) ∧ Ab (vl (fop .sub .f32 y (fop .mul .f32 a b)) - (vl y - vl a * vl b)) e := by
 obtain ⟨m1, m2⟩ := fv_mul ha hb hP (by grind)
 have hd : Ab (vl y - vl (fop .mul .f32 a b)) (M + e32 P) := by
  have := hM.sub m2
  rw [show vl y - vl a * vl b - (vl (fop .mul .f32 a b) - vl a * vl b) = vl y - vl (fop .mul .f32 a b) from by grind] at this; exact this
 have p0 := hP.nonneg
 obtain ⟨s1, s2⟩ := fv_sub hy m1 hd (by unfold e32; grind)
 refine ⟨s1, ?_⟩
 have := s2.sub m2
 rw [show vl (fop .sub .f32 y (fop .mul .f32 a b)) - (vl y - vl (fop .mul .f32 a b)) - (vl (fop .mul .f32 a b) - vl a * vl b) = vl (fop .sub .f32 y (fop .mul .f32 a b)) - (vl y - vl a * vl b) from by grind] at this
 exact this.mono (by grind)
theorem fv_addmul {y a b : F} {P M e : Rat} (hy : Fv y) (ha : Fv a) (hb : Fv b) (hP : Ab (vl a * vl b) P) (hM : Ab (vl y + vl a * vl b) M) (hP1 : P ≤ 1000000) (hM1 : M ≤ 1000000) (he : e32 P + e32 (M + e32 P) ≤ e) : Fv (fop .add .f32 y (fop .mul .f32 a b)) ∧ Ab (vl (fop .add .f32 y (fop .mul .f32 a b)) - (vl y + vl a * vl b)) e := by
 obtain ⟨m1, m2⟩ := fv_mul ha hb hP (by grind)
 have hd : Ab (vl y + vl (fop .mul .f32 a b)) (M + e32 P) := by
  have := hM.add m2
  rw [show vl y + vl a * vl b + (vl (fop .mul .f32 a b) - vl a * vl b) = vl y + vl (fop .mul .f32 a b) from by grind] at this; exact this
 have p0 := hP.nonneg
 obtain ⟨s1, s2⟩ := fv_add hy m1 hd (by unfold e32; grind)
 refine ⟨s1, ?_⟩
 have := s2.add m2
 rw [show vl (fop .add .f32 y (fop .mul .f32 a b)) - (vl y + vl (fop .mul .f32 a b)) + (vl (fop .mul .f32 a b) - vl a * vl b) = vl (fop .add .f32 y (fop .mul .f32 a b)) - (vl y + vl a * vl b) from by grind] at this
 exact this.mono (by grind)
def rs (f : Nat → Rat) : Nat → Rat
 | 0 => 0
 | n + 1 => rs f n + f n
theorem rs_congr {f g : Nat → Rat} : ∀ {n : Nat}, (∀ j, j < n → f j = g j) → rs f n = rs g n
 | 0, _ => rfl
 | n + 1, h => by unfold rs; rw [rs_congr (n := n) fun j hj => h j (by omega), h n (by omega)]
theorem rs_add (f g : Nat → Rat) : ∀ n, rs (fun j => f j + g j) n = rs f n + rs g n
 | 0 => by simp only [rs]; grind
 | n + 1 => by unfold rs; rw [rs_add f g n]; grind
theorem rs_sub (f g : Nat → Rat) : ∀ n, rs (fun j => f j - g j) n = rs f n - rs g n
 | 0 => by simp only [rs]; grind
 | n + 1 => by unfold rs; rw [rs_sub f g n]; grind
theorem rs_mul (c : Rat) (f : Nat → Rat) : ∀ n, rs (fun j => c * f j) n = c * rs f n
 | 0 => by simp [rs]
 | n + 1 => by unfold rs; rw [rs_mul c f n]; grind
theorem rs_zero : ∀ n, rs (fun _ => 0) n = 0
 | 0 => rfl
 | n + 1 => by unfold rs; rw [rs_zero n]; grind
theorem rs_comm (f : Nat → Nat → Rat) (m : Nat) : ∀ n, rs (fun j => rs (fun i => f i j) m) n = rs (fun i => rs (fun j => f i j) n) m
 | 0 => by simp only [rs]; exact (rs_zero m).symm
 | n + 1 => by
  show rs (fun j => rs (fun i => f i j) m) n + rs (fun i => f i n) m = rs (fun i => rs (fun j => f i j) n + f i n) m
  rw [rs_comm f m n, rs_add]
theorem rs_ab {f : Nat → Rat} {e : Rat} : ∀ {n : Nat}, (∀ j, j < n → Ab (f j) e) → Ab (rs f n) ((n : Rat) * e)
 | 0, _ => by unfold rs; exact ⟨by simp, by simp⟩
 | n + 1, h => by
  unfold rs
  have := (rs_ab (n := n) fun j hj => h j (by omega)).add (h n (by omega))
  rw [show (n : Rat) * e + e = ((n + 1 : Nat) : Rat) * e from by push_cast; grind] at this
  exact this
theorem rs_split (f : Nat → Rat) (a : Nat) : ∀ b, rs f (a + b) = rs f a + rs (fun j => f (a + j)) b
 | 0 => by show rs f a = rs f a + 0; grind
 | b + 1 => by
  show rs f (a + b) + f (a + b) = rs f a + (rs (fun j => f (a + j)) b + f (a + b))
  rw [rs_split f a b]; grind
theorem rs_delta (f : Nat → Rat) (k : Nat) : ∀ n : Nat, rs (fun j => f j * (if j = k then 1 else 0)) n = if k < n then f k else 0
 | 0 => by simp [rs]
 | n + 1 => by
  unfold rs
  rw [rs_delta f k n]
  by_cases h : n = k
  ·subst h
   rw [if_neg (by omega), if_pos rfl, if_pos (by omega)]; grind
  ·rw [if_neg h]
   by_cases h2 : k < n
   ·rw [if_pos h2, if_pos (by omega)]; grind
   ·rw [if_neg h2, if_neg (by omega)]; grind
theorem less_near {f g : Nat → F} {y : F} {P S e : Rat} {lo m : Nat} (hy : Fv y) (hm : m ≤ 16) (hf : ∀ j, j < m → Fv (f (lo + j)) ∧ Fv (g (lo + j)) ∧ Ab (vl (f (lo + j)) * vl (g (lo + j))) P)
  (hS : ∀ j, j ≤ m → Ab (vl y - rs (fun t => vl (f (lo + t)) * vl (g (lo + t))) j) S) (hP1 : P ≤ 100000) (hS1 : S ≤ 100000) (he : e32 P + e32 (S + 16 * e + e32 P) ≤ e) (he1 : e ≤ 1) (he0 : 0 ≤ e) :
  ∀ j, j ≤ m → Fv (run (fun k s => fop .sub .f32 s (fop .mul .f32 (f k) (g k))) lo j y) ∧ Ab (vl (run (fun k s => fop .sub .f32 s (fop .mul .f32 (f k) (g k))) lo j y) - (vl y - rs (fun t => vl (f (lo + t)) * vl (g (lo + t))) j)) ((j : Rat) * e)
 | 0, _ => by
  refine ⟨hy, ?_⟩
  show Ab (vl y - (vl y - 0)) ((0 : Nat) * e)
  exact ⟨by simp; grind, by simp; grind⟩
 | j + 1, hj => by
  obtain ⟨i1, i2⟩ := less_near hy hm hf hS hP1 hS1 he he1 he0 j (by omega)
  obtain ⟨f1, f2, f3⟩ := hf j (by omega)
  rw [run_last]
  generalize run (fun k s => fop .sub .f32 s (fop .mul .f32 (f k) (g k))) lo j y = z at *
  have hs := hS (j + 1) hj
  have e1 : rs (fun t => vl (f (lo + t)) * vl (g (lo + t))) (j + 1) = rs (fun t => vl (f (lo + t)) * vl (g (lo + t))) j + vl (f (lo + j)) * vl (g (lo + j)) := rfl
  rw [e1] at hs ⊢
  generalize rs (fun t => vl (f (lo + t)) * vl (g (lo + t))) j = T at *
  have hj16 : (j : Rat) ≤ 16 := by exact_mod_cast (show j ≤ 16 by omega)
  have hje : (j : Rat) * e ≤ 16 * e := Rat.mul_le_mul_of_nonneg_right hj16 he0
  have hM : Ab (vl z - vl (f (lo + j)) * vl (g (lo + j))) (S + 16 * e) := by
   have := (i2.mono hje).add hs
   rw [show vl z - (vl y - T) + (vl y - (T + vl (f (lo + j)) * vl (g (lo + j)))) = vl z - vl (f (lo + j)) * vl (g (lo + j)) from by grind] at this
   exact this.mono (by grind)
  obtain ⟨r1, r2⟩ := fv_submul i1 f1 f2 f3 hM (by grind) (by grind) he
  refine ⟨r1, ?_⟩
  have := r2.add i2
  rw [show vl (fop .sub .f32 z (fop .mul .f32 (f (lo + j)) (g (lo + j)))) - (vl z - vl (f (lo + j)) * vl (g (lo + j))) + (vl z - (vl y - T)) = vl (fop .sub .f32 z (fop .mul .f32 (f (lo + j)) (g (lo + j)))) - (vl y - (T + vl (f (lo + j)) * vl (g (lo + j)))) from by grind] at this
  exact this.mono (by push_cast; grind)
end Go.AM

namespace Go.AM
abbrev mXc (a b : Int) (l : List F) : List AV := [AV.i64 a, AV.i64 b, AV.sl l.length (l.map AV.f32)]
abbrev zMx : List AV := [AV.i64 0, AV.i64 0, AV.nilsl]
abbrev oXc (a b : Int) (p v n : Nat) : List AV := [AV.i64 a, AV.i64 b, AV.oref p v 0 n]
abbrev sFc (l : List F) : AV := AV.sl l.length (l.map AV.f32)
def ndB : List Nat → Bool
 | [] => true
 | a :: l => l.all (fun b => !Nat.beq a b) && ndB l
theorem ndB_ok {l : List Nat} (h : ndB l = true) : l.Nodup := by
 induction l with
 | nil => exact List.nodup_nil
 | cons a l ih =>
  simp only [ndB, Bool.and_eq_true, List.all_eq_true] at h
  exact List.nodup_cons.2 ⟨fun hm => by simpa using h.1 a hm, ih h.2⟩
section
variable {P : Program} {N : Nat} {all : Array Oper} {o : Oper} {rest : List Oper} {τ : List (Nat × AV)} {Γ : List Ob} {Q : PQ} {r : AV}
theorem zl {d : Nat} (hl : LOp P o τ r) (h : ROps P N all rest ((d, r) :: τ) Γ Q) (hw : wantT all τ o = some true := by exact rfl) (hd : o.dst = some d := by exact rfl) (hN : Nat.blt d (N / 2) = true := by exact rfl) : ROps P N all (o :: rest) τ Γ Q := ROps.l hw hd hN hl h
theorem za {d : Nat} {x : Operand} (h : ROps P N all rest ((d, r) :: τ) Γ Q) (hw : wantT all τ o = some true := by exact rfl) (hd : o.dst = some d := by exact rfl) (hN : Nat.blt d (N / 2) = true := by exact rfl) (ho : o.op = .assign x := by exact rfl) (hx : ev τ x = r := by exact rfl) : ROps P N all (o :: rest) τ Γ Q := ROps.l hw hd hN (LOp.assign ho hx) h
theorem zQ {id : Nat} {l : List Oper} {y : Code} (h : ROps P N l.toArray l τ Γ (thenQ (fun τ Γ => RunC P N y τ Γ Q) Q)) : RunC P N (.seq (.region id l.toArray false) y) τ Γ Q := RunC.seq (RunC.regionW h)
theorem zN (h : Q .normal τ Γ) : ROps P N all [] τ Γ Q := ROps.nil h
theorem aR {a : AV} : ALe a a := ALe.refl a
theorem yl {d : Nat} (hd : o.dst = some d) (r : AV) (hl : LOp P o τ r) (h : ROps P N all rest ((d, r) :: τ) Γ Q) (hw : wantT all τ o = some true := by exact rfl) (hN : Nat.blt d (N / 2) = true := by exact rfl) : ROps P N all (o :: rest) τ Γ Q := ROps.l hw hd hN hl h
theorem ym {d : Nat} (hd : o.dst = some d) (r : AV) {x : Operand} (h : ROps P N all rest ((d, r) :: τ) Γ Q) (hw : wantT all τ o = some true := by exact rfl) (hN : Nat.blt d (N / 2) = true := by exact rfl) (ho : o.op = .move x := by exact rfl) (hx : ev τ x = r := by exact rfl) : ROps P N all (o :: rest) τ Γ Q := ROps.l hw hd hN (LOp.move ho hx) h
theorem ya {d : Nat} (hd : o.dst = some d) (r : AV) {x : Operand} (h : ROps P N all rest ((d, r) :: τ) Γ Q) (hw : wantT all τ o = some true := by exact rfl) (hN : Nat.blt d (N / 2) = true := by exact rfl) (ho : o.op = .assign x := by exact rfl) (hx : ev τ x = r := by exact rfl) : ROps P N all (o :: rest) τ Γ Q := ROps.l hw hd hN (LOp.assign ho hx) h
theorem yd {d : Nat} (hd : o.dst = some d) (r : AV) (ht : TOp P o τ Γ r []) (h : ROps P N all rest ((d, r) :: τ) Γ Q) (hw : wantT all τ o = some true := by exact rfl) (hN : Nat.blt d (N / 2) = true := by exact rfl) : ROps P N all (o :: rest) τ Γ Q := ROps.d hw hd hN ht rfl h
theorem ye {d : Nat} {fs : List (Nat × List AV)} (hd : o.dst = some d) (r : AV) (Γ' : List Ob) (ht : TOp P o τ Γ r fs) (h : ROps P N all rest ((d, r) :: τ) Γ' Q) (hw : wantT all τ o = some true := by exact rfl) (hN : Nat.blt d (N / 2) = true := by exact rfl) (hΓ : fillOb Γ fs = Γ' := by exact rfl) : ROps P N all (o :: rest) τ Γ Q := ROps.d hw hd hN ht hΓ h
theorem ys {t : TypeId} {x y : Operand} {n p ver off : Nat} {l ys : List AV} (r : AV) (l' : List AV) (Γ' : List Ob) (hn : ∀ w, (sizeOf t).run P w = .ok n w) (h : ROps P N all rest τ Γ' Q) (hw : wantT all τ o = some true := by exact rfl) (ho : o.op = .store t x y := by exact rfl) (hd : o.dst = none := by exact rfl) (hx : ev τ x = .optr p ver off := by exact rfl) (hy : ∀ S μ v, V S μ (ev τ y) v → V S μ r v := by exact ALe.refl _) (hc : r.cells? = some ys := by exact rfl) (hone : ys.all AV.one = true := by exact rfl) (hlen : ys.length = n := by exact rfl) (hp : Γ[p]? = some ⟨ver, some l⟩ := by exact rfl) (hfit : off + ys.length ≤ l.length := by exact Nat.le_of_ble_eq_true rfl) (hl' : overlay l off ys = l' := by exact rfl) (hΓ : Γ.set p ⟨ver, some l'⟩ = Γ' := by exact rfl) : ROps P N all (o :: rest) τ Γ Q := ROps.store_le hw hn ho hd hx hy hc hone hlen hp hfit hl' hΓ h
theorem yE {f : FuncId} {fn : Func} {c : Code} {args : List AV} (hf : P.funcs[f]? = some fn) (k n g : Nat) (τ : List (Nat × AV)) (Γ' : List Ob) {Γo : List Ob} (hb : fn.body = some c) (h : RunC P n c τ Γ' (bodyQ P fn g r Γo)) (hN : Nat.ble args.length fn.ntmps = true := by exact rfl) (hτ : argClaims 0 args = τ := by exact rfl) (hΓ : Γ ++ List.replicate k ⟨0, none⟩ = Γ' := by exact rfl) (hn : n / 2 = fn.ntmps := by exact rfl) (hg : Γ.length = g := by exact rfl) (hz : n % 2 = 1 → g = 0 := by exact fun _ => rfl) : Ev P f args Γ r Γo := Ev.start hf hb hN k hτ hΓ hn hg hz h
theorem yT {c : Operand} {x y : Code} (h : RunC P N x τ Γ Q) (hc : ev τ c = .x (.bool true) := by exact rfl) : RunC P N (.cond c x y) τ Γ Q := RunC.cond_true hc rfl h
theorem yF {c : Operand} {x y : Code} (h : RunC P N y τ Γ Q) (hc : ev τ c = .x (.bool false) := by exact rfl) : RunC P N (.cond c x y) τ Γ Q := RunC.cond_false hc rfl h
theorem yS {x y : Code} (h : RunC P N x τ Γ (thenQ (fun τ Γ => RunC P N y τ Γ Q) Q)) : RunC P N (.seq x y) τ Γ Q := RunC.seq h
theorem yW {id : Nat} {l : List Oper} (h : ROps P N l.toArray l τ Γ Q) : RunC P N (.region id l.toArray false) τ Γ Q := RunC.regionW h
theorem yB {Γ' : List Ob} {fn : Func} {e : Exit} {k : Nat} {r : AV} (r' : AV) (sel : List (Nat × Nat)) (h : Res P fn τ Γ r') (hs : SelL Γ sel sel Γ') (he : e = .normal ∨ e = .ret := by first | exact .inr rfl | exact .inl rfl) (hk : (List.range k).all (fun i => sel[i]? == some (i, 0)) = true := by exact rfl) (hn : ndB (sel.map (·.1)) = true := by exact rfl) (hr : r.ren (sigma sel) = r' := by exact rfl) (hrl : r.lt sel.length = true := by exact rfl) : bodyQ P fn k r Γ' e τ Γ := bodyQ.mk sel he hk (ndB_ok hn) hr hrl h hs
theorem yc {f : FuncId} {A A' : List AV} {args : Array Operand} {tys : Array TypeId} (hc : ∀ vs w, (callFunc f vs).run P w = .ok (.enter f vs) w) (ho : o.op = .call { callee := .value (.func f), args := args, argTypes := tys }) (hA' : args.toList.map (ev τ) = A) (hA : Bors Γ A A') (hev : Ev P f A' [] r []) (hr : r.lt 0 = true := by exact rfl) (hs : r.nos = true := by exact rfl) : TOp P o τ Γ r [] := TOp.callB (CallAs.func hc ho hA') hA hr hs hev
theorem bP {a : AV} {l l' : List AV} (k : Bors Γ l l') (h : a.lt 0 = true := by exact rfl) : Bors Γ (a :: l) (a :: l') := Bors.cons (Bor.pure h) k
theorem bS {α : Type} {f : α → AV} {n : Nat} {m : List α} {l l' : List AV} (k : Bors Γ l l') (hf : ∀ x, (f x).lt 0 = true := by exact fun _ => rfl) : Bors Γ (.sl n (m.map f) :: l) (.sl n (m.map f) :: l') := Bors.cons (Bor.sl hf) k
theorem bN : Bors Γ [] [] := Bors.nil
theorem bN0 {a : AV} (h : a.lt 0 = true := by exact rfl) : Bors Γ [a] [a] := Bors.cons (Bor.pure h) Bors.nil
theorem yp {c x y : Operand} {r : AV} (ho : o.op = .pick c x y := by exact rfl) (hc : ev τ c = .b false := by exact rfl) (hx : ev τ y = r := by exact rfl) : LOp P o τ r := LOp.pick_false ho hc hx
theorem yq {c x y : Operand} {r : AV} (ho : o.op = .pick c x y := by exact rfl) (hc : ev τ c = .b true := by exact rfl) (hx : ev τ x = r := by exact rfl) : LOp P o τ r := LOp.pick_true ho hc hx
theorem y0 {t : TypeId} {x : Operand} (ho : o.op = .unOp .not t x := by exact rfl) (hx : ev τ x = .b false := by exact rfl) : LOp P o τ (.b true) := LOp.not ho hx
theorem y1 {t : TypeId} {x : Operand} (ho : o.op = .unOp .not t x := by exact rfl) (hx : ev τ x = .b true := by exact rfl) : LOp P o τ (.b false) := LOp.not ho hx
theorem yv {x : Operand} {b b' : Bool} (e : b = b') (ho : o.op = .move x := by exact rfl) (hx : ev τ x = .b b := by exact rfl) : LOp P o τ (.b b') := (LOp.move ho hx).eqb e
theorem yL {t : TypeId} {x : Operand} {n : Nat} {l r : List AV} (hg : ∀ w, (isAgg t).run P w = .ok true w) (hn : ∀ w, (sizeOf t).run P w = .ok n w) (ho : o.op = .load t x := by exact rfl) (hx : ev τ x = .ptr l := by exact rfl) (hr : l.take n = r := by exact rfl) (hl : r.length = n := by exact rfl) : LOp P o τ (.agg r) := LOp.loadAgg hg hn ho hx hr hl
theorem y2 {t : TypeId} {x : Operand} {l : List AV} (hg : ∀ w, (isAgg t).run P w = .ok false w) (ho : o.op = .load t x := by exact rfl) (hx : ev τ x = .ptr (r :: l) := by exact rfl) : LOp P o τ r := LOp.load1 hg ho hx
theorem y3 {x : Operand} {l : List AV} {i : Nat} (ho : o.op = .extract x i := by exact rfl) (hx : ev τ x = .tup l := by exact rfl) (hi : l[i]? = some r := by exact rfl) : LOp P o τ r := LOp.extract ho hx hi
variable {τ' : List (Nat × AV)} {fss : List (List (Nat × List AV))} {bs : List Bool} {n : Nat} {fs : List (Nat × List AV)}
theorem tl {d : Nat} (hd : o.dst = some d) (r : AV) (hl : LOp P o τ r) (h : TRun P all Γ (List.take n rest) ((d, r) :: τ) τ' fss bs) (hw : wantT all τ o = some true := by exact rfl) : TRun P all Γ (List.take (n + 1) (o :: rest)) τ τ' ([] :: fss) (false :: bs) := TR.l hw hd hl h
theorem tm {d : Nat} {x : Operand} (hd : o.dst = some d) (r : AV) (h : TRun P all Γ (List.take n rest) ((d, r) :: τ) τ' fss bs) (hw : wantT all τ o = some true := by exact rfl) (ho : o.op = .move x := by exact rfl) (hx : ev τ x = r := by exact rfl) : TRun P all Γ (List.take (n + 1) (o :: rest)) τ τ' ([] :: fss) (false :: bs) := TR.l hw hd (LOp.move ho hx) h
theorem ts {d : Nat} (hd : o.dst = some d) (h : TRun P all Γ (List.take n rest) ((d, .x undef) :: τ) τ' fss bs) (hw : wantT all τ o = some false := by exact rfl) : TRun P all Γ (List.take (n + 1) (o :: rest)) τ τ' ([] :: fss) (false :: bs) := TR.s hw hd h
theorem oS {α β : Type} {x : Option α} {k : α → Option β} {r : β} (h : obind x k = some r) : ∃ a, x = some a ∧ k a = some r := obind_some h
theorem oB {α : Type} {c : Bool} {x y : Option α} {r : α} (h : bsel c x y = some r) : (c = true ∧ x = some r) ∨ (c = false ∧ y = some r) := bsel_some h
theorem oL {α β : Type} {a : α} {k : α → Option β} {r : β} (h : olet a k = some r) : ∃ x, a = x ∧ k x = some r := olet_some h
theorem oI {α : Type} {a b : α} (h : some a = some b) : a = b := Option.some.inj h
abbrev o0 : Ob := ⟨0, none⟩
abbrev oF (k : Nat) (l : List F) : Ob := ⟨k, some (l.map AV.f32)⟩
abbrev oJ (k : Nat) (l : List Int) : Ob := ⟨k, some (l.map AV.i64)⟩
theorem yR {d : Nat} (hd : o.dst = some d) (h : ROps P N all rest ((d, .x undef) :: τ) Γ Q) (hw : wantT all τ o = some false := by exact rfl) (hN : Nat.blt d (N / 2) = true := by exact rfl) : ROps P N all (o :: rest) τ Γ Q := ROps.s hw hd hN h
theorem bR {fn : Func} {e : Exit} {t : Nat} (hf : fn.results = #[.tmp t]) (h : look τ t = r := by exact rfl) (he : e = .normal ∨ e = .ret := by first | exact .inr rfl | exact .inl rfl) (hr : r.lt 0 = true := by exact rfl) : bodyQ P fn 0 r [] e τ Γ := bodyQ.pure he hr (Res.one hf (RV.tmp h))
theorem sA {sel0 sel : List (Nat × Nat)} {p s : Nat} {l : List F} {Γ' : List Ob} (hp : Γ[p]? = some ⟨s, some (l.map AV.f32)⟩) (h : SelL Γ sel0 sel Γ') : SelL Γ sel0 ((p, s) :: sel) (⟨0, some (l.map AV.f32)⟩ :: Γ') := SelL.arr0 (fun _ => rfl) hp h
theorem yA {t : TypeId} {x : Operand} {p ver off n : Nat} {l r : List AV} (hg : ∀ w, (isAgg t).run P w = .ok true w) (hn : ∀ w, (sizeOf t).run P w = .ok n w) (ho : o.op = .load t x := by exact rfl) (hx : ev τ x = .optr p ver off := by exact rfl) (hp : Γ[p]? = some ⟨ver, some l⟩ := by exact rfl) (hr : (l.drop off).take n = r := by exact rfl) (hl : r.length = n := by exact rfl) : TOp P o τ Γ (.agg r) [] := TOp.loadAgg_o hp hg hn ho hx hr hl
theorem y4 {x : Operand} {l : List AV} (ho : o.op = .nilCheck x := by exact rfl) (hx : ev τ x = .ptr l := by exact rfl) : LOp P o τ (.ptr l) := LOp.nilCheck_ptr ho hx
end
end Go.AM
