/- The abstract layer, eleventh part: floats widened, turned about, as bits. -/
import Derived.Test.YtmgjiomflefedaaAmFloat
namespace Go.AM
def fabs (x : F) : F := x.map fun b => b % 2 ^ 63

section words
open Ieee
theorem read_neg {f : Format} (hw : f = single ∨ f = double) {b : Nat} (hb : b < 2 ^ f.width) : (f.read (b ^^^ f.signWeight)).isNaN = (f.read b).isNaN ∧ b ^^^ f.signWeight < 2 ^ f.width := by
  have hx : ∀ (e b : Nat), b < 2 ^ (e + 1) → (b ^^^ 2 ^ e) % 2 ^ e = b % 2 ^ e ∧ b ^^^ 2 ^ e < 2 ^ (e + 1) := by
    intro e b hb
    refine ⟨?_, Nat.xor_lt_two_pow hb (Nat.pow_lt_pow_right (by omega) (by omega))⟩
    apply Nat.eq_of_testBit_eq
    intro i
    simp only [Nat.testBit_mod_two_pow, Nat.testBit_xor, Nat.testBit_two_pow]
    by_cases h : i < e
    · simp [h, show ¬ e = i by omega]
    · simp [h]
  rcases hw with rfl | rfl
  · have h := hx 31 b hb
    refine ⟨?_, h.2⟩
    have hs : single.signWeight = 2 ^ 31 := rfl
    simp only [Format.read, hs]
    rw [h.1]
    split
    · rfl
    · split
      · rfl
      · split <;> rfl
  · have h := hx 63 b hb
    refine ⟨?_, h.2⟩
    have hs : double.signWeight = 2 ^ 63 := rfl
    simp only [Format.read, hs]
    rw [h.1]
    split
    · rfl
    · split
      · rfl
      · split <;> rfl
theorem FR.neg {k : FloatKind} {b : Nat} {c : F} (h : FR k b c) : FR k (Op.negFloat k b) (fneg k c) := by
  have hk : k.format = single ∨ k.format = double := by cases k <;> simp [FloatKind.format]
  have hs : 2 ^ (k.format.exponentBits + k.format.fractionBits) = k.format.signWeight := rfl
  cases c with
  | none =>
    obtain ⟨h1, h2⟩ := h
    have := read_neg hk h1
    exact ⟨by unfold Op.negFloat; rw [hs]; exact this.2, by unfold Op.negFloat; rw [hs, this.1]; exact h2⟩
  | some c =>
    obtain ⟨rfl, h1, h2⟩ := h
    have := read_neg hk h1
    exact ⟨rfl, by unfold Op.negFloat; rw [hs]; exact this.2, by unfold Op.negFloat; rw [hs, this.1]; exact h2⟩
theorem FR.abs {b : Nat} {c : F} (h : FR .f64 b c) : FR .f64 (b % 2 ^ 63) (fabs c) := by
  have hb : b % 2 ^ 63 < 2 ^ FloatKind.f64.format.width := Nat.lt_of_lt_of_le (Nat.mod_lt b (by omega)) (by decide)
  have hr : (double.read (b % 2 ^ 63)).isNaN = (double.read b).isNaN := by
    have hs : double.signWeight = 2 ^ 63 := rfl
    simp only [Format.read, hs, Nat.mod_mod]
    split
    · rfl
    · split
      · rfl
      · split <;> rfl
  cases c with
  | none => exact ⟨hb, hr.trans h.2⟩
  | some c => obtain ⟨rfl, h1, h2⟩ := h; exact ⟨rfl, hb, hr.trans h2⟩
theorem rung_aux (A B : Nat) (hA : A ≤ 1149) (hB : B < 2 ^ 53) : min (A * 4503599627370496 + B) 9218868437227405312 < 9218868437227405312 := by
  have h4 : A * 4503599627370496 ≤ 1149 * 4503599627370496 := Nat.mul_le_mul_right _ hA
  exact Nat.lt_of_le_of_lt (Nat.min_le_left _ _) (Nat.lt_of_lt_of_le (Nat.add_lt_add_of_le_of_lt h4 hB) (by decide))
theorem widen_finite {b : Nat} {s : Bool} {m : Nat} {e : Int} (h : FloatKind.f32.decode b = .number s m e) : (FloatKind.f64.decode (FloatKind.f64.encode (.number s m e))).isInfinity = false := by
  have hm : m < 2 ^ 24 ∧ -149 ≤ e ∧ e ≤ 104 := by
    have h' : single.read b = .number s m e := h
    have hs : single.signWeight = 2147483648 := rfl
    have hbn : single.binade = 8388608 := rfl
    have hi : single.infRung = 2139095040 := rfl
    have hl : single.leastPlace = -149 := rfl
    simp only [Format.read, hs, hbn, hi, hl] at h'
    split at h'
    · simp at h'; omega
    · split at h'
      · simp at h'; omega
      · split at h' <;> simp at h'
  show (double.read (double.nearest s m e)).isInfinity = false
  have key : ∀ rung, rung < double.infRung → (double.read (double.word s rung)).isInfinity = false := by
    intro rung hr
    have h1 := double.infRung_lt
    have h2 : double.word s rung % double.signWeight = rung := by
      unfold Format.word
      split
      · rw [Nat.add_mod_left]; exact Nat.mod_eq_of_lt (by omega)
      · exact Nat.mod_eq_of_lt (by omega)
    simp only [Format.read, h2]
    split
    · rfl
    · first | rfl | (rw [if_pos hr]; rfl)
  have hi : double.infRung = 9218868437227405312 := rfl
  have hbn : double.binade = 4503599627370496 := rfl
  have hl : double.leastPlace = -1074 := rfl
  have hf : double.fractionBits = 52 := rfl
  unfold Format.nearest
  split
  · exact key 0 (by rw [hi]; omega)
  · rename_i hm0
    have hlog : m.log2 ≤ 23 := by
      have := (Nat.log2_lt hm0).2 hm.1
      omega
    have hlt : m < 2 ^ (m.log2 + 1) := Nat.lt_log2_self
    simp only [hbn, hl, hf]
    have hlast : max (e + (m.log2 : Int) - ((52 : Nat) : Int)) (-1074) = e + (m.log2 : Int) - 52 := by omega
    rw [hlast]
    have h1 : (e - (e + (m.log2 : Int) - 52)).toNat = 52 - m.log2 := by omega
    have h2 : (e + (m.log2 : Int) - 52 - e).toNat = 0 := by omega
    rw [h1, h2]
    have hsh : m <<< (52 - m.log2) < 2 ^ 53 := by
      rw [Nat.shiftLeft_eq]
      have : m * 2 ^ (52 - m.log2) < 2 ^ (m.log2 + 1) * 2 ^ (52 - m.log2) := Nat.mul_lt_mul_of_pos_right hlt (Nat.two_pow_pos _)
      rw [← Nat.pow_add] at this
      rw [show m.log2 + 1 + (52 - m.log2) = 53 from by omega] at this
      exact this
    have hcut : Toward.even.cut s (m <<< (52 - m.log2)) 0 = m <<< (52 - m.log2) := by
      simp [Toward.cut, Nat.mod_one]
    rw [hcut]
    refine key _ ?_
    rw [hi]
    have h3 : (e + (m.log2 : Int) - 52 - -1074).toNat ≤ 1149 := by omega
    exact rung_aux _ _ h3 hsh
theorem nan_cut_conv {k : FloatKind} (x t : Nat) : FR k ((Question.nanConv k x).cut t) none := by
  have : (Question.nanConv k x).cut t = (Question.nanBits k x x).cut t := by cases k <;> rfl
  rw [this]; exact nan_cut x x t
theorem run_widen {P : Program} {b : Nat} {c : F} (h : FR .f32 b c) (w : World) : ∃ r w', (Conv.floatToFloat .f32 b .f64).run P w = .ok (.float .f64 r) w' ∧ FR .f64 r (fwiden c) ∧ Grow w w' := by
  have hd : ¬ FloatKind.f32 = FloatKind.f64 := by decide
  cases c with
  | none =>
    obtain ⟨h1, h2⟩ := h
    have h2' : (FloatKind.f32.decode b).isNaN = true := h2
    cases hdec : FloatKind.f32.decode b with
    | number s m e => rw [hdec] at h2'; cases h2'
    | infinity s => rw [hdec] at h2'; cases h2'
    | nan s t =>
      refine ⟨_, { w with drawn := w.drawn + 1 }, ?_, nan_cut_conv b (w.tape w.drawn (.nanConv .f64 b)), ⟨Nat.le_refl _, fun _ _ => rfl, rfl, rfl, rfl⟩⟩
      simp [Conv.floatToFloat, hdec, Question.forced]
  | some c =>
    obtain ⟨rfl, h1, h2⟩ := h
    have h2' : (FloatKind.f32.decode b).isNaN = false := h2
    refine ⟨FloatKind.f64.encode (FloatKind.f32.decode b), w, ?_, encode_FR .f64 h2', Grow.refl w⟩
    cases hdec : FloatKind.f32.decode b with
    | number s m e =>
      have := widen_finite hdec
      simp [Conv.floatToFloat, hdec, this]
    | infinity s => simp [Conv.floatToFloat, hdec]
    | nan s t => rw [hdec] at h2'; cases h2'
end words

section
variable {P : Program} {o : Oper} {τ : List (Nat × AV)} {Γ : List Ob}
theorem TOp.widen {src dst : TypeId} {x : Operand} {c : F} (hs : ∃ d, P.underlying src = some d) (hd : P.underlying dst = some (.float .f64)) (ho : o.op = .convert src dst x) (hx : OpF τ x .f32 c) : TOp P o τ Γ (.f64 (fwiden c)) [] := by
  intro S μ Γ2 a w _ _ hw h next Q hn
  obtain ⟨d, hs⟩ := hs
  obtain ⟨b, e1, f1⟩ := hx S μ a (h x (by simp [ho, Op.operands]))
  obtain ⟨r, w', hrun, hr, hg⟩ := run_widen (P := P) f1 w
  unfold Oper.wp
  have : (execOp a.eval o).run P w = .ok (.value (.float .f64 r)) w' := by
    cases d <;> simp [execOp, ho, e1, convert, run_underlying hs, run_underlying hd, hrun]
  rw [this]
  exact hn S μ _ w' (SExt.refl S) (SFresh.refl _ S) (MuStep.refl _ _ _) (hw.grow hg) (by simp only [V]; exact ⟨r, rfl, hr⟩) hg
theorem LOp.fneg {t : TypeId} {x : Operand} {k : FloatKind} {c : F} (ho : o.op = .unOp .neg t x) (hx : OpF τ x k c) : LOp P o τ (.f k (AM.fneg k c)) := by
  intro S μ a h
  obtain ⟨b, e1, f1⟩ := hx S μ a (h x (by simp [ho, Op.operands]))
  exact ⟨.float k (Op.negFloat k b), fun w _ => by simp [execOp, ho, e1, Op.unary], by simp only [V]; exact ⟨_, rfl, f1.neg⟩⟩
theorem LOp.fbits {f : FuncId} {k : FloatKind} {ik : IntKind} {x : Operand} {tys : Array TypeId} {c : F} (hc : ∀ b w, (callFunc f #[.float k b]).run P w = .ok (.value (.int ik b)) w) (ho : o.op = .call { callee := .value (.func f), args := #[x], argTypes := tys }) (hx : OpF τ x k c) : LOp P o τ (.bt k ik c) := by
  intro S μ a h
  obtain ⟨b, e1, f1⟩ := hx S μ a (h x (by simp [ho, Op.operands, Call.operands]))
  refine ⟨.int ik b, fun w _ => ?_, by simp only [V]; exact ⟨b, rfl, f1⟩⟩
  have hfe : a.eval (.func f) = .func (.func f) #[] #[] := rfl
  simp [execOp, ho, resolve, hfe, e1, Deferred.ofValue, invoke, hc]
theorem LOp.bits_x {f : FuncId} {k : FloatKind} {ik : IntKind} {x : Operand} {tys : Array TypeId} {c : Nat} (hc : ∀ b w, (callFunc f #[.float k b]).run P w = .ok (.value (.int ik b)) w) (ho : o.op = .call { callee := .value (.func f), args := #[x], argTypes := tys }) (hx : OpF τ x k (some c)) : LOp P o τ (.x (.int ik c)) := by
  intro S μ a h
  obtain ⟨b, e1, f1⟩ := hx S μ a (h x (by simp [ho, Op.operands, Call.operands]))
  obtain ⟨rfl, _⟩ := f1
  refine ⟨.int ik b, fun w _ => ?_, by simp only [V]⟩
  have hfe : a.eval (.func f) = .func (.func f) #[] #[] := rfl
  simp [execOp, ho, resolve, hfe, e1, Deferred.ofValue, invoke, hc]
theorem andNot_sign {b : Nat} : (BitVec.ofInt 64 (b : Int) &&& ~~~ BitVec.ofInt 64 9223372036854775808).toNat = b % 2 ^ 63 := by
  have h1 : BitVec.ofInt 64 (b : Int) = BitVec.ofNat 64 b := by simp
  have h2 : BitVec.ofInt 64 9223372036854775808 = BitVec.ofNat 64 9223372036854775808 := by decide
  rw [h1, h2]
  apply Nat.eq_of_testBit_eq
  intro i
  have h3 : ~~~ (BitVec.ofNat 64 9223372036854775808) = BitVec.ofNat 64 9223372036854775807 := by decide
  rw [h3]
  simp only [BitVec.toNat_and, BitVec.toNat_ofNat, Nat.testBit_and, Nat.testBit_mod_two_pow]
  rw [show (9223372036854775807 : Nat) = 2 ^ 63 - 1 from rfl, Nat.testBit_two_pow_sub_one]
  by_cases h : i < 63
  · simp [h, show i < 64 by omega]
  · simp [h]
theorem LOp.andNot_bt {t ty : TypeId} {x y : Operand} {c : F} (ho : o.op = .binOp .andNot t x y ty) (hx : ev τ x = .bt .f64 .u64 c) (hy : ev τ y = .x (.int .u64 9223372036854775808)) : LOp P o τ (.bt .f64 .u64 (fabs c)) := by
  intro S μ a h
  have h1 := opnd h (x := x) (by simp [ho, Op.operands]) hx
  have h2 := opnd h (x := y) (by simp [ho, Op.operands]) hy
  simp only [V] at h1 h2
  obtain ⟨b, h1, hf⟩ := h1
  have hb : b < 2 ^ 64 := by
    cases c with
    | none => exact hf.1
    | some c => obtain ⟨rfl, h, _⟩ := hf; exact h
  refine ⟨.int .u64 ((b % 2 ^ 63 : Nat) : Int), fun w _ => ?_, by simp only [V]; exact ⟨_, rfl, hf.abs⟩⟩
  have hw : IntKind.u64.wrap ((b % 2 ^ 63 : Nat) : Int) = ((b % 2 ^ 63 : Nat) : Int) := by
    have : b % 2 ^ 63 < 2 ^ 63 := Nat.mod_lt _ (by omega)
    simp only [IntKind.wrap, IntKind.bits, IntKind.signed]
    simp
    omega
  have hk := andNot_sign (b := b)
  have : (Op.intBits .andNot .u64 (b : Int) 9223372036854775808).run P w = .ok (.int .u64 ((b % 2 ^ 63 : Nat) : Int)) w := by
    show Result.ok (Value.int .u64 (IntKind.u64.wrap ((BitVec.ofInt 64 (b : Int) &&& ~~~ BitVec.ofInt 64 9223372036854775808).toNat : Int))) w = _
    rw [hk, hw]
  simp [execOp, ho, h1, h2, eqGuard, binOp, this]
theorem LOp.ffrom {f : FuncId} {k : FloatKind} {ik : IntKind} {x : Operand} {tys : Array TypeId} {c : F} (hc : ∀ (b : Nat) w, (callFunc f #[.int ik b]).run P w = .ok (.value (.float k b)) w) (ho : o.op = .call { callee := .value (.func f), args := #[x], argTypes := tys }) (hx : ev τ x = .bt k ik c) : LOp P o τ (.f k c) := by
  intro S μ a h
  have h1 := opnd h (x := x) (by simp [ho, Op.operands, Call.operands]) hx
  simp only [V] at h1
  obtain ⟨b, e1, f1⟩ := h1
  refine ⟨.float k b, fun w _ => ?_, by simp only [V]; exact ⟨b, rfl, f1⟩⟩
  have hfe : a.eval (.func f) = .func (.func f) #[] #[] := rfl
  simp [execOp, ho, resolve, hfe, e1, Deferred.ofValue, invoke, hc]
end
end Go.AM
