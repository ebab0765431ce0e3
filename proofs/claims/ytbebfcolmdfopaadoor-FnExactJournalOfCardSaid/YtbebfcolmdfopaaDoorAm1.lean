/- The abstract layer, part 1. -/
import Derived.Laws.ComplexArith
import Derived.ArgAppend
import Derived.Test.YtbebfcolmdfopaaDoorAm0
set_option linter.unusedVariables false
/- The abstract layer, tenth part: floats. -/
namespace Go.AM

def fop (op : BinOp) (k : FloatKind) (x y : F) : F := x.bind fun a => y.bind fun b => floatBits op k a b
def ford (k : FloatKind) (x y : F) : Option Ordering := x.bind fun a => y.bind fun b => k.format.order a b
def feq (k : FloatKind) (x y : F) : Bool := ford k x y == some .eq
def flt (k : FloatKind) (x y : F) : Bool := ford k x y == some .lt
def fle (k : FloatKind) (x y : F) : Bool := ford k x y == some .lt || ford k x y == some .eq
def fneg (k : FloatKind) (x : F) : F := x.map (Op.negFloat k)
def fwiden (x : F) : F := x.map fun b => FloatKind.f64.encode (FloatKind.f32.decode b)
def fint (k : FloatKind) (n : Int) : F := some (k.nearest n)

section words
open Ieee
theorem signW (f : Format) : f.infRung < f.signWeight := f.infRung_lt
theorem read_word (f : Format) (neg : Bool) {rung : Nat} (h : rung ≤ f.infRung) : (f.read (f.word neg rung)).isNaN = false := by
  have h1 := f.infRung_lt
  have h2 : f.word neg rung % f.signWeight = rung := by
    unfold Format.word
    split
    · rw [Nat.add_mod_left]; exact Nat.mod_eq_of_lt (by omega)
    · exact Nat.mod_eq_of_lt (by omega)
  simp only [Format.read, h2]
  split
  · rfl
  · split
    · rfl
    · have : rung = f.infRung := by omega
      rw [if_pos this]; rfl
theorem read_write (f : Format) {d : Datum} (h : d.isNaN = false) : (f.read (f.write d)).isNaN = false := by
  cases d with
  | number neg mag place =>
    simp only [Format.write, Format.nearest]
    split
    · exact read_word f neg (Nat.zero_le _)
    · exact read_word f neg (Nat.min_le_right _ _)
  | infinity neg => exact read_word f neg (Nat.le_refl _)
  | nan neg fr => simp [Datum.isNaN] at h
theorem sum_notNaN {a b d : Datum} (h : a.sum b = some d) : d.isNaN = false := by
  cases a <;> cases b <;> simp only [Datum.sum] at h <;> first
    | (cases h; done)
    | (split at h <;> first | (cases h; done) | (cases h; rfl))
    | (cases h; rfl)
theorem product_notNaN {a b d : Datum} (h : a.product b = some d) : d.isNaN = false := by
  cases a <;> cases b <;> simp only [Datum.product] at h <;> first
    | (cases h; done)
    | (split at h <;> first | (cases h; done) | (cases h; rfl))
    | (cases h; rfl)
theorem quotient_notNaN {a b d : Datum} {n : Nat} (h : a.quotient n b = some d) : d.isNaN = false := by
  cases a <;> cases b <;> simp only [Datum.quotient] at h <;> first
    | (cases h; done)
    | (split at h <;> first | (cases h; done) | (cases h; rfl) | (split at h <;> first | (cases h; done) | (cases h; rfl)))
    | (cases h; rfl)
theorem sum_nan {a b : Datum} (h : a.isNaN = true ∨ b.isNaN = true) : a.sum b = none := by
  cases a <;> cases b <;> simp [Datum.isNaN, Datum.sum] at h ⊢
theorem product_nan {a b : Datum} (h : a.isNaN = true ∨ b.isNaN = true) : a.product b = none := by
  cases a <;> cases b <;> simp [Datum.isNaN, Datum.product] at h ⊢
theorem quotient_nan {a b : Datum} {n : Nat} (h : a.isNaN = true ∨ b.isNaN = true) : a.quotient n b = none := by
  cases a <;> cases b <;> simp [Datum.isNaN, Datum.quotient] at h ⊢
theorem order_nan {a b : Datum} (h : a.isNaN = true ∨ b.isNaN = true) : a.order b = none := by
  cases a <;> cases b <;> simp [Datum.isNaN, Datum.order] at h ⊢
theorem opposite_nan {a : Datum} : a.opposite.isNaN = a.isNaN := by cases a <;> rfl

theorem floatBits_notNaN {op : BinOp} {k : FloatKind} {x y r : Nat} (h : floatBits op k x y = some r) : (k.format.read r).isNaN = false := by
  unfold floatBits at h
  split at h
  · simp only [Format.add, Option.map_eq_some_iff] at h; obtain ⟨d, h1, rfl⟩ := h; exact read_write _ (sum_notNaN h1)
  · simp only [Format.sub, Option.map_eq_some_iff] at h; obtain ⟨d, h1, rfl⟩ := h; exact read_write _ (sum_notNaN h1)
  · simp only [Format.mul, Option.map_eq_some_iff] at h; obtain ⟨d, h1, rfl⟩ := h; exact read_write _ (product_notNaN h1)
  · simp only [Format.div, Option.map_eq_some_iff] at h; obtain ⟨d, h1, rfl⟩ := h; exact read_write _ (quotient_notNaN h1)
  · cases h
theorem floatBits_lt {op : BinOp} {k : FloatKind} {x y r : Nat} (h : floatBits op k x y = some r) : r < 2 ^ k.format.width := by
  unfold floatBits at h
  split at h
  · exact k.format.add_lt h
  · exact k.format.sub_lt h
  · exact k.format.mul_lt h
  · exact k.format.div_lt h
  · cases h
theorem floatBits_nan {op : BinOp} {k : FloatKind} {x y : Nat} (h : (k.format.read x).isNaN = true ∨ (k.format.read y).isNaN = true) : floatBits op k x y = none := by
  unfold floatBits
  split
  · simp [Format.add, sum_nan h]
  · simp [Format.sub, sum_nan (h.imp id fun h => by rw [opposite_nan]; exact h)]
  · simp [Format.mul, product_nan h]
  · simp [Format.div, quotient_nan h]
  · rfl
theorem FR.nan {k : FloatKind} {b : Nat} {x : F} (h : FR k b x) (hx : x = none) : (k.format.read b).isNaN = true := by subst hx; exact h.2
theorem fop_spec {op : BinOp} {k : FloatKind} {a b : Nat} {x y : F} (hx : FR k a x) (hy : FR k b y) : floatBits op k a b = fop op k x y := by
  cases x with
  | none => rw [floatBits_nan (.inl hx.2)]; rfl
  | some c =>
    cases y with
    | none => rw [floatBits_nan (.inr hy.2)]; rfl
    | some d => obtain ⟨rfl, _⟩ := hx; obtain ⟨rfl, _⟩ := hy; rfl
theorem ford_spec {k : FloatKind} {a b : Nat} {x y : F} (hx : FR k a x) (hy : FR k b y) : k.format.order a b = ford k x y := by
  cases x with
  | none => simp only [Format.order, order_nan (.inl hx.2)]; rfl
  | some c =>
    cases y with
    | none => simp only [Format.order, order_nan (.inr hy.2)]; rfl
    | some d => obtain ⟨rfl, _⟩ := hx; obtain ⟨rfl, _⟩ := hy; rfl
theorem nan_cut {k : FloatKind} (x y t : Nat) : FR k ((Question.nanBits k x y).cut t) none := by
  cases k
  · have h : (Question.nanBits .f32 x y).cut t = (t % 2) * 2 ^ 31 + 0x7f800000 + 1 + (t / 2) % (2 ^ 23 - 1) := rfl
    rw [h]
    have h1 : t % 2 < 2 := Nat.mod_lt _ (by omega)
    have h2 : (t / 2) % (2 ^ 23 - 1) < 2 ^ 23 - 1 := Nat.mod_lt _ (by omega)
    refine ⟨?_, ?_⟩
    · show _ < 2 ^ 32
      omega
    · have e : ((t % 2) * 2 ^ 31 + 0x7f800000 + 1 + (t / 2) % (2 ^ 23 - 1)) % 2 ^ 31 = 0x7f800001 + (t / 2) % (2 ^ 23 - 1) := by omega
      show (Ieee.single.read _).isNaN = true
      have hw : Ieee.single.signWeight = 2 ^ 31 := rfl
      have hb : Ieee.single.binade = 2 ^ 23 := rfl
      have hi : Ieee.single.infRung = 0x7f800000 := rfl
      simp only [Format.read, hw, hb, hi, e]
      rw [if_neg (by omega), if_neg (by omega), if_neg (by omega)]; rfl
  · have h : (Question.nanBits .f64 x y).cut t = (t % 2) * 2 ^ 63 + 0x7ff0000000000000 + 1 + (t / 2) % (2 ^ 52 - 1) := rfl
    rw [h]
    have h1 : t % 2 < 2 := Nat.mod_lt _ (by omega)
    have h2 : (t / 2) % (2 ^ 52 - 1) < 2 ^ 52 - 1 := Nat.mod_lt _ (by omega)
    refine ⟨?_, ?_⟩
    · show _ < 2 ^ 64
      omega
    · have e : ((t % 2) * 2 ^ 63 + 0x7ff0000000000000 + 1 + (t / 2) % (2 ^ 52 - 1)) % 2 ^ 63 = 0x7ff0000000000001 + (t / 2) % (2 ^ 52 - 1) := by omega
      show (Ieee.double.read _).isNaN = true
      have hw : Ieee.double.signWeight = 2 ^ 63 := rfl
      have hb : Ieee.double.binade = 2 ^ 52 := rfl
      have hi : Ieee.double.infRung = 0x7ff0000000000000 := rfl
      simp only [Format.read, hw, hb, hi, e]
      rw [if_neg (by omega), if_neg (by omega), if_neg (by omega)]; rfl
theorem FR.of_bits {op : BinOp} {k : FloatKind} {x y r : Nat} (h : floatBits op k x y = some r) : FR k r (some r) := ⟨rfl, floatBits_lt h, floatBits_notNaN h⟩
end words

section
variable {P : Program} {o : Oper} {τ : List (Nat × AV)} {Γ : List Ob}
/-- An operand is a float as claimed. -/
def OpF (τ : List (Nat × AV)) (x : Operand) (k : FloatKind) (c : F) : Prop := ∀ (S : Snap) (μ : List Mu) (a : Act), V S μ (ev τ x) (a.eval x) → ∃ b, a.eval x = .float k b ∧ FR k b c
theorem OpF.tmp {x : Operand} {k : FloatKind} {c : F} (h : ev τ x = .f k c) : OpF τ x k c := by
  intro S μ a hv
  rw [h] at hv
  simpa only [V] using hv
theorem OpF.const {x : Operand} {k : FloatKind} {b : Nat} (h : ev τ x = .x (.float k b)) (hb : decide (b < 2 ^ k.format.width) = true) (hn : (k.format.read b).isNaN = false) : OpF τ x k (some b) := by
  intro S μ a hv
  rw [h] at hv
  simp only [V] at hv
  exact ⟨b, hv, rfl, of_decide_eq_true hb, hn⟩

theorem run_fop {op : BinOp} {k : FloatKind} {a b : Nat} {x y : F} (hx : FR k a x) (hy : FR k b y) (hop : op = .add ∨ op = .sub ∨ op = .mul ∨ op = .quo) (w : World) :
    ∃ r w', (Op.floatArith op k a b).run P w = .ok (.float k r) w' ∧ FR k r (fop op k x y) ∧ Grow w w' := by
  have hs := fop_spec (op := op) hx hy
  cases h : fop op k x y with
  | some r =>
    rw [h] at hs
    exact ⟨r, w, run_floatArith w hs, FR.of_bits hs, Grow.refl w⟩
  | none =>
    rw [h] at hs
    refine ⟨_, { w with drawn := w.drawn + 1 }, ?_, nan_cut a b (w.tape w.drawn (.nanBits k a b)), ⟨Nat.le_refl _, fun _ _ => rfl, rfl, rfl, rfl⟩⟩
    unfold floatBits at hs
    rcases hop with rfl | rfl | rfl | rfl <;> simp only at hs <;> simp [Op.floatArith, hs, Question.forced] <;> rfl
theorem TOp.fop {op : BinOp} {t ty : TypeId} {x y : Operand} {k : FloatKind} {a b : F} (hop : op = .add ∨ op = .sub ∨ op = .mul ∨ op = .quo) (ho : o.op = .binOp op t x y ty) (hx : OpF τ x k a) (hy : OpF τ y k b) : TOp P o τ Γ (.f k (AM.fop op k a b)) [] := by
  intro S μ Γ2 ac w _ _ hw h next Q hn
  obtain ⟨p, e1, f1⟩ := hx S μ ac (h x (by simp [ho, Op.operands]))
  obtain ⟨q, e2, f2⟩ := hy S μ ac (h y (by simp [ho, Op.operands]))
  obtain ⟨r, w', hrun, hfr, hg⟩ := run_fop (P := P) f1 f2 hop w
  unfold Oper.wp
  have : (execOp ac.eval o).run P w = .ok (.value (.float k r)) w' := by
    rcases hop with rfl | rfl | rfl | rfl <;> simp [execOp, ho, e1, e2, eqGuard, binOp, hrun]
  rw [this]
  exact hn S μ _ w' (SExt.refl S) (SFresh.refl _ S) (MuStep.refl _ _ _) (hw.grow hg) (by simp only [V]; exact ⟨r, rfl, hfr⟩) hg
theorem LOp.fcmp {op : BinOp} {t ty : TypeId} {x y : Operand} {k : FloatKind} {a b : F} {r : Bool} (ho : o.op = .binOp op t x y ty) (hx : OpF τ x k a) (hy : OpF τ y k b)
    (hr : ∀ p q w, k.format.order p q = ford k a b → (Op.floatCmp op k p q).run P w = .ok (.bool r) w) (hop : op = .eql ∨ op = .neq ∨ op = .lss ∨ op = .leq ∨ op = .gtr ∨ op = .geq) : LOp P o τ (.b r) := by
  intro S μ ac h
  obtain ⟨p, e1, f1⟩ := hx S μ ac (h x (by simp [ho, Op.operands]))
  obtain ⟨q, e2, f2⟩ := hy S μ ac (h y (by simp [ho, Op.operands]))
  refine ⟨.bool r, fun w _ => ?_, by simp only [V]⟩
  have := hr p q w (ford_spec f1 f2)
  rcases hop with rfl | rfl | rfl | rfl | rfl | rfl <;> simp [execOp, ho, e1, e2, eqGuard, binOp, this]
theorem ford_swap {k : FloatKind} {a b : F} : ford k b a = (ford k a b).map Ordering.swap := by
  cases a with
  | none => cases b <;> rfl
  | some x =>
    cases b with
    | none => rfl
    | some y =>
      show k.format.order y x = (k.format.order x y).map _
      unfold Ieee.Format.order
      cases k.format.read x <;> cases k.format.read y <;> simp only [Ieee.Datum.order, Option.map_none, Option.map_some]
      · rename_i s m i t n j
        rw [show min j i = min i j from by omega]
        rw [← Int.compare_swap]
      · rename_i s m i t; cases t <;> rfl
      · rename_i s t n j; cases s <;> rfl
      · rename_i s t; cases s <;> cases t <;> rfl
theorem LOp.feq {t ty : TypeId} {x y : Operand} {k : FloatKind} {a b : F} (ho : o.op = .binOp .eql t x y ty) (hx : OpF τ x k a) (hy : OpF τ y k b) : LOp P o τ (.b (AM.feq k a b)) :=
  LOp.fcmp ho hx hy (fun p q w h => by simp [Op.floatCmp, h, AM.feq]) (by simp)
theorem LOp.fne {t ty : TypeId} {x y : Operand} {k : FloatKind} {a b : F} (ho : o.op = .binOp .neq t x y ty) (hx : OpF τ x k a) (hy : OpF τ y k b) : LOp P o τ (.b (!AM.feq k a b)) :=
  LOp.fcmp ho hx hy (fun p q w h => by simp [Op.floatCmp, h, AM.feq, bne]) (by simp)
theorem LOp.flt {t ty : TypeId} {x y : Operand} {k : FloatKind} {a b : F} (ho : o.op = .binOp .lss t x y ty) (hx : OpF τ x k a) (hy : OpF τ y k b) : LOp P o τ (.b (AM.flt k a b)) :=
  LOp.fcmp ho hx hy (fun p q w h => by simp [Op.floatCmp, h, AM.flt]) (by simp)
theorem LOp.fle {t ty : TypeId} {x y : Operand} {k : FloatKind} {a b : F} (ho : o.op = .binOp .leq t x y ty) (hx : OpF τ x k a) (hy : OpF τ y k b) : LOp P o τ (.b (AM.fle k a b)) :=
  LOp.fcmp ho hx hy (fun p q w h => by simp [Op.floatCmp, h, AM.fle]) (by simp)
theorem swap_gt {o : Option Ordering} : (o.map Ordering.swap == some .lt) = (o == some .gt) := by cases o with | none => rfl | some o => cases o <;> rfl
theorem swap_eq {o : Option Ordering} : (o.map Ordering.swap == some .eq) = (o == some .eq) := by cases o with | none => rfl | some o => cases o <;> rfl
theorem LOp.fgt {t ty : TypeId} {x y : Operand} {k : FloatKind} {a b : F} (ho : o.op = .binOp .gtr t x y ty) (hx : OpF τ x k a) (hy : OpF τ y k b) : LOp P o τ (.b (AM.flt k b a)) :=
  LOp.fcmp ho hx hy (fun p q w h => by simp only [Op.floatCmp, h, AM.flt]; rw [ford_swap (a := a) (b := b), swap_gt]; rfl) (by simp)
theorem LOp.fge {t ty : TypeId} {x y : Operand} {k : FloatKind} {a b : F} (ho : o.op = .binOp .geq t x y ty) (hx : OpF τ x k a) (hy : OpF τ y k b) : LOp P o τ (.b (AM.fle k b a)) :=
  LOp.fcmp ho hx hy (fun p q w h => by simp only [Op.floatCmp, h, AM.fle]; rw [ford_swap (a := a) (b := b), swap_gt, swap_eq]; rfl) (by simp)
theorem encode_FR (k : FloatKind) {d : Ieee.Datum} (h : d.isNaN = false) : FR k (k.encode d) (some (k.encode d)) := ⟨rfl, k.format.write_lt d, read_write _ h⟩
theorem LOp.i2f {src dst : TypeId} {x : Operand} {k : FloatKind} {ik : IntKind} {n : Int} (hs : ∃ d, P.underlying src = some d) (hd : P.underlying dst = some (.float k)) (ho : o.op = .convert src dst x) (hx : ev τ x = .x (.int ik n)) : LOp P o τ (.f k (fint k n)) := by
  intro S μ a h
  obtain ⟨d, hs⟩ := hs
  have h1 := opnd h (x := x) (by simp [ho, Op.operands]) hx
  simp only [V] at h1
  refine ⟨.float k (k.nearest n), fun w _ => ?_, by simp only [V]; exact ⟨_, rfl, encode_FR k rfl⟩⟩
  cases d <;> simp [execOp, ho, h1, convert, run_underlying hs, run_underlying hd, Conv.intToFloat]
end
end Go.AM

/- The abstract layer, eleventh part: floats widened, turned about, as bits. -/
namespace Go.AM
def fabs (x : F) : F := x.map fun b => b % 2 ^ 63

section words
open Ieee
theorem read_neg {f : Format} (hw : f = single ∨ f = double) {b : Nat} (hb : b < 2 ^ f.width) : (f.read (b ^^^ f.signWeight)).isNaN = (f.read b).isNaN ∧ b ^^^ f.signWeight < 2 ^ f.width := by
  have hx : ∀ (e b : Nat), b < 2 ^ (e + 1) → (b ^^^ 2 ^ e) % 2 ^ e = b % 2 ^ e ∧ b ^^^ 2 ^ e < 2 ^ (e + 1) := by
    intro e b hb
    refine ⟨?_, Nat.xor_lt_two_pow hb (Nat.pow_lt_pow_right (by omega) (by omega))⟩
    apply Nat.eq_of_testBit_eq
    intro i
    simp only [Nat.testBit_mod_two_pow, Nat.testBit_xor, Nat.testBit_two_pow]
    by_cases h : i < e
    · simp [h, show ¬ e = i by omega]
    · simp [h]
  rcases hw with rfl | rfl
  · have h := hx 31 b hb
    refine ⟨?_, h.2⟩
    have hs : single.signWeight = 2 ^ 31 := rfl
    simp only [Format.read, hs]
    rw [h.1]
    split
    · rfl
    · split
      · rfl
      · split <;> rfl
  · have h := hx 63 b hb
    refine ⟨?_, h.2⟩
    have hs : double.signWeight = 2 ^ 63 := rfl
    simp only [Format.read, hs]
    rw [h.1]
    split
    · rfl
    · split
      · rfl
      · split <;> rfl
theorem FR.neg {k : FloatKind} {b : Nat} {c : F} (h : FR k b c) : FR k (Op.negFloat k b) (fneg k c) := by
  have hk : k.format = single ∨ k.format = double := by cases k <;> simp [FloatKind.format]
  have hs : 2 ^ (k.format.exponentBits + k.format.fractionBits) = k.format.signWeight := rfl
  cases c with
  | none =>
    obtain ⟨h1, h2⟩ := h
    have := read_neg hk h1
    exact ⟨by unfold Op.negFloat; rw [hs]; exact this.2, by unfold Op.negFloat; rw [hs, this.1]; exact h2⟩
  | some c =>
    obtain ⟨rfl, h1, h2⟩ := h
    have := read_neg hk h1
    exact ⟨rfl, by unfold Op.negFloat; rw [hs]; exact this.2, by unfold Op.negFloat; rw [hs, this.1]; exact h2⟩
theorem FR.abs {b : Nat} {c : F} (h : FR .f64 b c) : FR .f64 (b % 2 ^ 63) (fabs c) := by
  have hb : b % 2 ^ 63 < 2 ^ FloatKind.f64.format.width := Nat.lt_of_lt_of_le (Nat.mod_lt b (by omega)) (by decide)
  have hr : (double.read (b % 2 ^ 63)).isNaN = (double.read b).isNaN := by
    have hs : double.signWeight = 2 ^ 63 := rfl
    simp only [Format.read, hs, Nat.mod_mod]
    split
    · rfl
    · split
      · rfl
      · split <;> rfl
  cases c with
  | none => exact ⟨hb, hr.trans h.2⟩
  | some c => obtain ⟨rfl, h1, h2⟩ := h; exact ⟨rfl, hb, hr.trans h2⟩
theorem rung_aux (A B : Nat) (hA : A ≤ 1149) (hB : B < 2 ^ 53) : min (A * 4503599627370496 + B) 9218868437227405312 < 9218868437227405312 := by
  have h4 : A * 4503599627370496 ≤ 1149 * 4503599627370496 := Nat.mul_le_mul_right _ hA
  exact Nat.lt_of_le_of_lt (Nat.min_le_left _ _) (Nat.lt_of_lt_of_le (Nat.add_lt_add_of_le_of_lt h4 hB) (by decide))
theorem widen_finite {b : Nat} {s : Bool} {m : Nat} {e : Int} (h : FloatKind.f32.decode b = .number s m e) : (FloatKind.f64.decode (FloatKind.f64.encode (.number s m e))).isInfinity = false := by
  have hm : m < 2 ^ 24 ∧ -149 ≤ e ∧ e ≤ 104 := by
    have h' : single.read b = .number s m e := h
    have hs : single.signWeight = 2147483648 := rfl
    have hbn : single.binade = 8388608 := rfl
    have hi : single.infRung = 2139095040 := rfl
    have hl : single.leastPlace = -149 := rfl
    simp only [Format.read, hs, hbn, hi, hl] at h'
    split at h'
    · simp at h'; omega
    · split at h'
      · simp at h'; omega
      · split at h' <;> simp at h'
  show (double.read (double.nearest s m e)).isInfinity = false
  have key : ∀ rung, rung < double.infRung → (double.read (double.word s rung)).isInfinity = false := by
    intro rung hr
    have h1 := double.infRung_lt
    have h2 : double.word s rung % double.signWeight = rung := by
      unfold Format.word
      split
      · rw [Nat.add_mod_left]; exact Nat.mod_eq_of_lt (by omega)
      · exact Nat.mod_eq_of_lt (by omega)
    simp only [Format.read, h2]
    split
    · rfl
    · first | rfl | (rw [if_pos hr]; rfl)
  have hi : double.infRung = 9218868437227405312 := rfl
  have hbn : double.binade = 4503599627370496 := rfl
  have hl : double.leastPlace = -1074 := rfl
  have hf : double.fractionBits = 52 := rfl
  unfold Format.nearest
  split
  · exact key 0 (by rw [hi]; omega)
  · rename_i hm0
    have hlog : m.log2 ≤ 23 := by
      have := (Nat.log2_lt hm0).2 hm.1
      omega
    have hlt : m < 2 ^ (m.log2 + 1) := Nat.lt_log2_self
    simp only [hbn, hl, hf]
    have hlast : max (e + (m.log2 : Int) - ((52 : Nat) : Int)) (-1074) = e + (m.log2 : Int) - 52 := by omega
    rw [hlast]
    have h1 : (e - (e + (m.log2 : Int) - 52)).toNat = 52 - m.log2 := by omega
    have h2 : (e + (m.log2 : Int) - 52 - e).toNat = 0 := by omega
    rw [h1, h2]
    have hsh : m <<< (52 - m.log2) < 2 ^ 53 := by
      rw [Nat.shiftLeft_eq]
      have : m * 2 ^ (52 - m.log2) < 2 ^ (m.log2 + 1) * 2 ^ (52 - m.log2) := Nat.mul_lt_mul_of_pos_right hlt (Nat.two_pow_pos _)
      rw [← Nat.pow_add] at this
      rw [show m.log2 + 1 + (52 - m.log2) = 53 from by omega] at this
      exact this
    have hcut : Toward.even.cut s (m <<< (52 - m.log2)) 0 = m <<< (52 - m.log2) := by
      simp [Toward.cut, Nat.mod_one]
    rw [hcut]
    refine key _ ?_
    rw [hi]
    have h3 : (e + (m.log2 : Int) - 52 - -1074).toNat ≤ 1149 := by omega
    exact rung_aux _ _ h3 hsh
theorem nan_cut_conv {k : FloatKind} (x t : Nat) : FR k ((Question.nanConv k x).cut t) none := by
  have : (Question.nanConv k x).cut t = (Question.nanBits k x x).cut t := by cases k <;> rfl
  rw [this]; exact nan_cut x x t
theorem run_widen {P : Program} {b : Nat} {c : F} (h : FR .f32 b c) (w : World) : ∃ r w', (Conv.floatToFloat .f32 b .f64).run P w = .ok (.float .f64 r) w' ∧ FR .f64 r (fwiden c) ∧ Grow w w' := by
  have hd : ¬ FloatKind.f32 = FloatKind.f64 := by decide
  cases c with
  | none =>
    obtain ⟨h1, h2⟩ := h
    have h2' : (FloatKind.f32.decode b).isNaN = true := h2
    cases hdec : FloatKind.f32.decode b with
    | number s m e => rw [hdec] at h2'; cases h2'
    | infinity s => rw [hdec] at h2'; cases h2'
    | nan s t =>
      refine ⟨_, { w with drawn := w.drawn + 1 }, ?_, nan_cut_conv b (w.tape w.drawn (.nanConv .f64 b)), ⟨Nat.le_refl _, fun _ _ => rfl, rfl, rfl, rfl⟩⟩
      simp [Conv.floatToFloat, hdec, Question.forced]
  | some c =>
    obtain ⟨rfl, h1, h2⟩ := h
    have h2' : (FloatKind.f32.decode b).isNaN = false := h2
    refine ⟨FloatKind.f64.encode (FloatKind.f32.decode b), w, ?_, encode_FR .f64 h2', Grow.refl w⟩
    cases hdec : FloatKind.f32.decode b with
    | number s m e =>
      have := widen_finite hdec
      simp [Conv.floatToFloat, hdec, this]
    | infinity s => simp [Conv.floatToFloat, hdec]
    | nan s t => rw [hdec] at h2'; cases h2'
end words

section
variable {P : Program} {o : Oper} {τ : List (Nat × AV)} {Γ : List Ob}
theorem TOp.widen {src dst : TypeId} {x : Operand} {c : F} (hs : ∃ d, P.underlying src = some d) (hd : P.underlying dst = some (.float .f64)) (ho : o.op = .convert src dst x) (hx : OpF τ x .f32 c) : TOp P o τ Γ (.f64 (fwiden c)) [] := by
  intro S μ Γ2 a w _ _ hw h next Q hn
  obtain ⟨d, hs⟩ := hs
  obtain ⟨b, e1, f1⟩ := hx S μ a (h x (by simp [ho, Op.operands]))
  obtain ⟨r, w', hrun, hr, hg⟩ := run_widen (P := P) f1 w
  unfold Oper.wp
  have : (execOp a.eval o).run P w = .ok (.value (.float .f64 r)) w' := by
    cases d <;> simp [execOp, ho, e1, convert, run_underlying hs, run_underlying hd, hrun]
  rw [this]
  exact hn S μ _ w' (SExt.refl S) (SFresh.refl _ S) (MuStep.refl _ _ _) (hw.grow hg) (by simp only [V]; exact ⟨r, rfl, hr⟩) hg
theorem LOp.fneg {t : TypeId} {x : Operand} {k : FloatKind} {c : F} (ho : o.op = .unOp .neg t x) (hx : OpF τ x k c) : LOp P o τ (.f k (AM.fneg k c)) := by
  intro S μ a h
  obtain ⟨b, e1, f1⟩ := hx S μ a (h x (by simp [ho, Op.operands]))
  exact ⟨.float k (Op.negFloat k b), fun w _ => by simp [execOp, ho, e1, Op.unary], by simp only [V]; exact ⟨_, rfl, f1.neg⟩⟩
theorem LOp.fbits {f : FuncId} {k : FloatKind} {ik : IntKind} {x : Operand} {tys : Array TypeId} {c : F} (hc : ∀ b w, (callFunc f #[.float k b]).run P w = .ok (.value (.int ik b)) w) (ho : o.op = .call { callee := .value (.func f), args := #[x], argTypes := tys }) (hx : OpF τ x k c) : LOp P o τ (.bt k ik c) := by
  intro S μ a h
  obtain ⟨b, e1, f1⟩ := hx S μ a (h x (by simp [ho, Op.operands, Call.operands]))
  refine ⟨.int ik b, fun w _ => ?_, by simp only [V]; exact ⟨b, rfl, f1⟩⟩
  have hfe : a.eval (.func f) = .func (.func f) #[] #[] := rfl
  simp [execOp, ho, resolve, hfe, e1, Deferred.ofValue, invoke, hc]
theorem LOp.bits_x {f : FuncId} {k : FloatKind} {ik : IntKind} {x : Operand} {tys : Array TypeId} {c : Nat} (hc : ∀ b w, (callFunc f #[.float k b]).run P w = .ok (.value (.int ik b)) w) (ho : o.op = .call { callee := .value (.func f), args := #[x], argTypes := tys }) (hx : OpF τ x k (some c)) : LOp P o τ (.x (.int ik c)) := by
  intro S μ a h
  obtain ⟨b, e1, f1⟩ := hx S μ a (h x (by simp [ho, Op.operands, Call.operands]))
  obtain ⟨rfl, _⟩ := f1
  refine ⟨.int ik b, fun w _ => ?_, by simp only [V]⟩
  have hfe : a.eval (.func f) = .func (.func f) #[] #[] := rfl
  simp [execOp, ho, resolve, hfe, e1, Deferred.ofValue, invoke, hc]
theorem andNot_sign {b : Nat} : (BitVec.ofInt 64 (b : Int) &&& ~~~ BitVec.ofInt 64 9223372036854775808).toNat = b % 2 ^ 63 := by
  have h1 : BitVec.ofInt 64 (b : Int) = BitVec.ofNat 64 b := by simp
  have h2 : BitVec.ofInt 64 9223372036854775808 = BitVec.ofNat 64 9223372036854775808 := by decide
  rw [h1, h2]
  apply Nat.eq_of_testBit_eq
  intro i
  have h3 : ~~~ (BitVec.ofNat 64 9223372036854775808) = BitVec.ofNat 64 9223372036854775807 := by decide
  rw [h3]
  simp only [BitVec.toNat_and, BitVec.toNat_ofNat, Nat.testBit_and, Nat.testBit_mod_two_pow]
  rw [show (9223372036854775807 : Nat) = 2 ^ 63 - 1 from rfl, Nat.testBit_two_pow_sub_one]
  by_cases h : i < 63
  · simp [h, show i < 64 by omega]
  · simp [h]
theorem LOp.andNot_bt {t ty : TypeId} {x y : Operand} {c : F} (ho : o.op = .binOp .andNot t x y ty) (hx : ev τ x = .bt .f64 .u64 c) (hy : ev τ y = .x (.int .u64 9223372036854775808)) : LOp P o τ (.bt .f64 .u64 (fabs c)) := by
  intro S μ a h
  have h1 := opnd h (x := x) (by simp [ho, Op.operands]) hx
  have h2 := opnd h (x := y) (by simp [ho, Op.operands]) hy
  simp only [V] at h1 h2
  obtain ⟨b, h1, hf⟩ := h1
  have hb : b < 2 ^ 64 := by
    cases c with
    | none => exact hf.1
    | some c => obtain ⟨rfl, h, _⟩ := hf; exact h
  refine ⟨.int .u64 ((b % 2 ^ 63 : Nat) : Int), fun w _ => ?_, by simp only [V]; exact ⟨_, rfl, hf.abs⟩⟩
  have hw : IntKind.u64.wrap ((b % 2 ^ 63 : Nat) : Int) = ((b % 2 ^ 63 : Nat) : Int) := by
    have : b % 2 ^ 63 < 2 ^ 63 := Nat.mod_lt _ (by omega)
    simp only [IntKind.wrap, IntKind.bits, IntKind.signed]
    simp
    omega
  have hk := andNot_sign (b := b)
  have : (Op.intBits .andNot .u64 (b : Int) 9223372036854775808).run P w = .ok (.int .u64 ((b % 2 ^ 63 : Nat) : Int)) w := by
    show Result.ok (Value.int .u64 (IntKind.u64.wrap ((BitVec.ofInt 64 (b : Int) &&& ~~~ BitVec.ofInt 64 9223372036854775808).toNat : Int))) w = _
    rw [hk, hw]
  simp [execOp, ho, h1, h2, eqGuard, binOp, this]
theorem LOp.ffrom {f : FuncId} {k : FloatKind} {ik : IntKind} {x : Operand} {tys : Array TypeId} {c : F} (hc : ∀ (b : Nat) w, (callFunc f #[.int ik b]).run P w = .ok (.value (.float k b)) w) (ho : o.op = .call { callee := .value (.func f), args := #[x], argTypes := tys }) (hx : ev τ x = .bt k ik c) : LOp P o τ (.f k c) := by
  intro S μ a h
  have h1 := opnd h (x := x) (by simp [ho, Op.operands, Call.operands]) hx
  simp only [V] at h1
  obtain ⟨b, e1, f1⟩ := h1
  refine ⟨.float k b, fun w _ => ?_, by simp only [V]; exact ⟨b, rfl, f1⟩⟩
  have hfe : a.eval (.func f) = .func (.func f) #[] #[] := rfl
  simp [execOp, ho, resolve, hfe, e1, Deferred.ofValue, invoke, hc]
end
end Go.AM

/- The abstract layer, last part: the forms in which printed texts apply it. -/
namespace Go.AM
section
variable {P : Program} {N : Nat} {all : Array Oper} {o : Oper} {rest : List Oper} {τ τ' : List (Nat × AV)} {Γ Γ' : List Ob} {Q : PQ} {r : AV} {fs : List (Nat × List AV)} {fss : List (List (Nat × List AV))} {bs : List Bool}
theorem ROps.l {d : Nat} (hw : wantT all τ o = some true) (hd : o.dst = some d) (hN : Nat.blt d (N / 2) = true) (hl : LOp P o τ r) (h : ROps P N all rest ((d, r) :: τ) Γ Q) : ROps P N all (o :: rest) τ Γ Q :=
  ROps.op hw (hl.top.rop (by simp only [dstLt, hd]; simpa using hN) (by rw [hd]; exact h))
theorem ROps.d {d : Nat} (hw : wantT all τ o = some true) (hd : o.dst = some d) (hN : Nat.blt d (N / 2) = true) (ht : TOp P o τ Γ r fs) (hΓ : fillOb Γ fs = Γ') (h : ROps P N all rest ((d, r) :: τ) Γ' Q) : ROps P N all (o :: rest) τ Γ Q :=
  ROps.op hw (ht.rop (by simp only [dstLt, hd]; simpa using hN) (by rw [hd, hΓ]; exact h))
theorem ROps.s {d : Nat} (hw : wantT all τ o = some false) (hd : o.dst = some d) (hN : Nat.blt d (N / 2) = true) (h : ROps P N all rest ((d, .x undef) :: τ) Γ Q) : ROps P N all (o :: rest) τ Γ Q :=
  ROps.skip hw (by simp only [dstLt, hd]; simpa using hN) (by rw [hd]; exact h)
theorem TRun.l {d : Nat} (hw : wantT all τ o = some true) (hd : o.dst = some d) (hl : LOp P o τ r) (h : TRun P all Γ rest ((d, r) :: τ) τ' fss bs) : TRun P all Γ (o :: rest) τ τ' ([] :: fss) (false :: bs) :=
  TRun.op hw hl.top (by rw [hd]; exact h)
theorem TRun.d {d : Nat} (hw : wantT all τ o = some true) (hd : o.dst = some d) (ht : TOp P o τ Γ r fs) (h : TRun P all Γ rest ((d, r) :: τ) τ' fss bs) : TRun P all Γ (o :: rest) τ τ' (fs :: fss) (false :: bs) :=
  TRun.op hw ht (by rw [hd]; exact h)
theorem TRun.loose' {d : Nat} (hw : wantT all τ o = some true) (hd : o.dst = some d) (hl : LOp P o τ r) (h : TRun P all Γ rest ((d, r) :: τ) τ' fss bs) : TRun P all Γ (o :: rest) τ τ' ([] :: fss) (true :: bs) :=
  TRun.loose hw hl (by rw [hd]; exact h)
theorem TRun.s {d : Nat} (hw : wantT all τ o = some false) (hd : o.dst = some d) (h : TRun P all Γ rest ((d, .x undef) :: τ) τ' fss bs) : TRun P all Γ (o :: rest) τ τ' ([] :: fss) (false :: bs) :=
  TRun.skip hw (by rw [hd]; exact h)
theorem RunC.region_draw {id : Nat} {l : List Oper} (n : Nat) (hm : P.follows .mixedOrders = true) (ht : TRun P l.toArray Γ (l.take n) τ τ' fss bs) (hn : bs.length = n) (hok : drawOk l.toArray bs = true) (hdst : (l.take n).all (dstLt N) = true) (hfl : fillsOk Γ fss.flatten) (hΓ : fillOb Γ fss.flatten = Γ')
    (h : ROps P N l.toArray (l.drop n) τ' Γ' (np Q)) : RunC P N (.region id l.toArray true) τ Γ Q := RunC.draw n hm ht hn hok hdst hfl (by rw [hΓ]; exact h)
theorem RunC.regionW {id : Nat} {l : List Oper} (h : ROps P N l.toArray l τ Γ Q) : RunC P N (.region id l.toArray false) τ Γ Q := RunC.region h
theorem fills_nil : fillsOk Γ [] := ⟨by simp, by simp⟩
theorem Ev.start {f : FuncId} {fn : Func} {c : Code} {args : List AV} {r : AV} {τ : List (Nat × AV)} (hf : P.funcs[f]? = some fn) (hb : fn.body = some c) (hN : Nat.ble args.length fn.ntmps = true) (k : Nat) (hτ : argClaims 0 args = τ) (hΓ : Γ ++ List.replicate k ⟨0, none⟩ = Γ')
    {Γo : List Ob} {n : Nat} (hn : n / 2 = fn.ntmps) {g : Nat} (hg : Γ.length = g) (hz : n % 2 = 1 → g = 0) (h : RunC P n c τ Γ' (bodyQ P fn g r Γo)) : Ev P f args Γ r Γo := by
  subst hg; subst hτ; subst hΓ
  exact Ev.of_run hf hb (Nat.le_of_ble_eq_true hN) hn hz (RunC.room k h)
end
end Go.AM

/- The abstract layer: calls that hand back new own objects, in whatever order; small conversions. -/
namespace Go.AM
section
variable {P : Program} {o : Oper} {τ : List (Nat × AV)} {Γ : List Ob}

theorem LOp.eqb {b b' : Bool} (h : LOp P o τ (.b b)) (e : b = b') : LOp P o τ (.b b') := e ▸ h
theorem TOp.eqb {b b' : Bool} {fs : List (Nat × List AV)} (h : TOp P o τ Γ (.b b) fs) (e : b = b') : TOp P o τ Γ (.b b') fs := e ▸ h

/-- The names that new objects are given, each with the version that is up. -/
def newNames (ns : List Nat) (Γ : List Ob) : List (Nat × Nat) := ns.map fun p => (p, match Γ[p]? with | some g => g.ver + 1 | none => 0)

theorem TOp.new_core {S : Snap} {μ : List Mu} {Γ2 : List Ob} {w : World} (hw : WI S μ Γ2 w) {S' : Snap} {μ' : List Mu} {w' : World} {ls : List (List AV)} {ns : List Nat}
    (hfr : FrI S [] w S' μ' w') (hw' : WI S' μ' (ls.map fun l => ⟨0, some l⟩) w') (hl0 : ls.all (AV.lts 0) = true) (hlen : ns.length = ls.length) (hnd : ns.Nodup) (hns : ∀ p ∈ ns, ∃ ver, Γ2[p]? = some ⟨ver, none⟩)
    {Sx : Snap} (hx : SExt S Sx) (hxf : SFresh w.heap.size S Sx) (hxs : SnapOK Sx w') (hxS : (∀ b, Sx b = none ∨ Sx b = S' b)) (hVP : ∀ l ∈ ls, ∀ vs, VP S' [] l vs → VP Sx [] l vs) :
    ∃ μ'', MuStep w.heap.size (ns.zip ls) μ μ'' ∧ WI Sx μ'' (fillOb Γ2 (ns.zip ls)) w' ∧ ∀ (i : Nat) (m' : Mu), μ'[i]? = some m' → Shift (sigma (newNames ns Γ2) i).2 (some m') μ''[(sigma (newNames ns Γ2) i).1]? := by
  have hg := hfr.toGrow
  have hl1 : μ'.length = ls.length := by rw [hw'.len]; simp
  have hfst : ((ns.zip ls).map (·.1)) = ns := List.map_fst_zip (by omega)
  -- the new entries
  let μ'' : List Mu := (ns.zip μ').foldl (fun μ p => μ.set p.1 { p.2 with ver := p.2.ver + (match Γ2[p.1]? with | some g => g.ver + 1 | none => 0) }) μ
  have hzip : ((ns.zip μ').map fun p => p.1) = ns := List.map_fst_zip (by omega)
  have hlt : ∀ p ∈ ns, p < μ.length := by
    intro p hp
    obtain ⟨ver, h⟩ := hns p hp
    rw [hw.len]; exact lt_of_getElem? h
  have hat : ∀ (i p : Nat) (m' : Mu), ns[i]? = some p → μ'[i]? = some m' → μ''[p]? = some { m' with ver := m'.ver + (match Γ2[p]? with | some g => g.ver + 1 | none => 0) } := by
    intro i p m' hp hm'
    have hz : (ns.zip μ')[i]? = some (p, m') := by rw [List.getElem?_zip_eq_some]; exact ⟨hp, hm'⟩
    exact foldl_set_at (f := fun p : Nat × Mu => p.1) (g := fun p => ({ p.2 with ver := p.2.ver + (match Γ2[p.1]? with | some g => g.ver + 1 | none => 0) } : Mu)) (by rw [hzip]; exact hnd) hz (hlt p (List.mem_of_getElem? hp))
  have hnot : ∀ i : Nat, i ∉ ns → μ''[i]? = μ[i]? := by
    intro i hi
    exact foldl_set_ne fun p hp e => hi (by rw [← e]; exact (List.of_mem_zip hp).1)
  have hmver : ∀ (i : Nat) (m' : Mu), μ'[i]? = some m' → m'.ver = 0 := by
    intro i m' hm'
    obtain ⟨l, hl⟩ := getElem?_of_lt (l := ls) (i := i) (by rw [← hl1]; exact lt_of_getElem? hm')
    exact hw'.ver i ⟨0, some l⟩ m' (by rw [List.getElem?_map, hl]; rfl) hm'
  have hidx : ∀ p, p ∈ ns → ∃ i, ns[i]? = some p := fun p hp => by
    obtain ⟨i, hi, e⟩ := List.mem_iff_getElem.1 hp
    exact ⟨i, by rw [List.getElem?_eq_getElem hi, e]⟩
  have hμ'at : ∀ (i p : Nat), ns[i]? = some p → ∃ m', μ'[i]? = some m' := fun i p hp => getElem?_of_lt (by rw [hl1, ← hlen]; exact lt_of_getElem? hp)
  have hnewblk : ∀ (i : Nat) (m' : Mu) (b : Nat), μ'[i]? = some m' → m'.blk = some b → w.heap.size ≤ b := by
    intro i m' b hm' hb
    rcases hfr.new i m' b hm' hb with ⟨m0, h0, _⟩ | h
    · simp at h0
    · exact h
  have hM : MuLe w.heap.size μ μ'' := by
    intro i m hm
    by_cases hi : i ∈ ns
    · obtain ⟨j, hj⟩ := hidx i hi
      obtain ⟨m', hm'⟩ := hμ'at j i hj
      obtain ⟨ver, hv⟩ := hns i hi
      have := hw.ver i _ m hv hm
      refine ⟨_, hat j i m' hj hm', ?_⟩
      simp only [hv]
      replace this : m.ver = ver := this
      exact ⟨by show m.ver ≤ m'.ver + (ver + 1); omega, fun e => by replace e : m'.ver + (ver + 1) = m.ver := e; omega, fun b hb => .inr (hnewblk j m' b hm' hb)⟩
    · exact ⟨m, by rw [hnot i hi]; exact hm, Nat.le_refl _, fun _ => rfl, fun _ hb => .inl hb⟩
  refine ⟨μ'', ⟨hM, fun i hi => hnot i fun hin => ?_, fun i m b hm hb => ?_⟩, ?_, ?_⟩
  · obtain ⟨j, hj⟩ := hidx i hin
    obtain ⟨l, hl⟩ := getElem?_of_lt (l := ls) (i := j) (by rw [← hlen]; exact lt_of_getElem? hj)
    exact hi (i, l) (List.mem_of_getElem? (i := j) (by rw [List.getElem?_zip_eq_some]; exact ⟨hj, hl⟩)) rfl
  · by_cases hi : i ∈ ns
    · obtain ⟨j, hj⟩ := hidx i hi
      obtain ⟨m', hm'⟩ := hμ'at j i hj
      rw [hat j i m' hj hm'] at hm
      simp at hm; subst hm
      exact .inr (hnewblk j m' b hm' hb)
    · rw [hnot i hi] at hm; exact .inl hm
  · have hstay : ∀ (i ver : Nat) (l : List AV) (m : Mu) (b : Nat), Γ2[i]? = some ⟨ver, some l⟩ → μ[i]? = some m → m.blk = some b → b < w.heap.size ∧ w'.heap[b]? = w.heap[b]? ∧ Sx b = none := by
      intro i ver l m b hgi hm hb
      obtain ⟨cs, T, e1, e2, e3, e4⟩ := own_cells hw hgi hm hb
      have hlt := (Array.getElem?_eq_some_iff.1 e1).1
      refine ⟨hlt, hg.block b hlt, ?_⟩
      cases hs : Sx b with
      | none => rfl
      | some c =>
        rcases hxf b c hs with h | h
        · rw [e4] at h; cases h
        · omega
    have hfillat : ∀ (j p : Nat) (l : List AV) (ver : Nat), ns[j]? = some p → ls[j]? = some l → Γ2[p]? = some ⟨ver, none⟩ → (fillOb Γ2 (ns.zip ls))[p]? = some ⟨ver + 1, some l⟩ := by
      intro j p l ver hp hl hv
      have := fillOb_at (Γ := Γ2) (f := (p, l)) (by rw [hfst]; exact hnd) (List.mem_of_getElem? (i := j) (by rw [List.getElem?_zip_eq_some]; exact ⟨hp, hl⟩))
      simpa [hv] using this
    have hfillne : ∀ i, i ∉ ns → (fillOb Γ2 (ns.zip ls))[i]? = Γ2[i]? := fun i hi => fillOb_ne fun f hf e => hi (by rw [← e]; exact (List.of_mem_zip hf).1)
    have hlat : ∀ (j p : Nat), ns[j]? = some p → ∃ l, ls[j]? = some l := fun j p hp => getElem?_of_lt (by rw [← hlen]; exact lt_of_getElem? hp)
    refine ⟨hxs, ?_, ?_, ?_, ?_⟩
    · rw [fillOb_length, ← hw.len]; exact foldl_set_length
    · intro i g m hgi hm
      by_cases hi : i ∈ ns
      · obtain ⟨j, hj⟩ := hidx i hi
        obtain ⟨m', hm'⟩ := hμ'at j i hj
        obtain ⟨l, hl⟩ := hlat j i hj
        obtain ⟨ver, hv⟩ := hns i hi
        rw [hat j i m' hj hm'] at hm
        rw [hfillat j i l ver hj hl hv] at hgi
        simp only [hv, Option.some.injEq] at hm hgi
        subst hm; subst hgi
        have := hmver j m' hm'
        show m'.ver + (ver + 1) = ver + 1; omega
      · rw [hnot i hi] at hm; rw [hfillne i hi] at hgi; exact hw.ver i g m hgi hm
    · intro i ver l m hgi hm
      by_cases hi : i ∈ ns
      · obtain ⟨j, hj⟩ := hidx i hi
        obtain ⟨m', hm'⟩ := hμ'at j i hj
        obtain ⟨l', hl'⟩ := hlat j i hj
        obtain ⟨ver', hv⟩ := hns i hi
        rw [hat j i m' hj hm'] at hm
        rw [hfillat j i l' ver' hj hl' hv] at hgi
        simp only [Option.some.injEq] at hm hgi
        subst hm
        injection hgi with _ h2
        simp only [Option.some.injEq] at h2
        subst h2
        have h0 := hw'.own j 0 l' m' (by rw [List.getElem?_map, hl']; rfl) hm'
        have hlts : AV.lts 0 l' = true := List.all_eq_true.1 hl0 l' (List.mem_of_getElem? hl')
        unfold OwnAt at h0 ⊢
        simp only
        split at h0
        · exact h0
        · rename_i b hb
          obtain ⟨k1, cs, T, k2, k3, k4⟩ := h0
          refine ⟨?_, cs, T, k2, k3, ?_⟩
          · rcases hxS b with h | h
            · exact h
            · rw [h]; exact k1
          · have h1 : VP S' [] l' cs.toList := by
              have := k4
              exact VP.unren (σ := fun i => (i, 0)) (k := 0) (μ := μ') (fun i hi => by omega) l' _ hlts (by rw [AV.rens_of_lt0 _ _ hlts]; exact this)
            have h2 := hVP l' (List.mem_of_getElem? hl') _ h1
            exact VP.unren (σ := fun i => (i, 0)) (k := 0) (μ := []) (fun i hi => by omega) l' _ hlts (by rw [AV.rens_of_lt0 _ _ hlts]; exact h2)
      · rw [hnot i hi] at hm; rw [hfillne i hi] at hgi
        have h0 := hw.own i ver l m hgi hm
        unfold OwnAt at h0 ⊢
        split at h0
        · exact h0
        · rename_i b hb
          obtain ⟨k1, k2, k3⟩ := hstay i ver l m b hgi hm hb
          obtain ⟨_, cs, T, e1, e2, e3⟩ := h0
          exact ⟨k3, cs, T, k2.trans e1, e2, VP.mono hx hM l _ e3⟩
    · intro i i' g g' m m' b hgi hs hgi' hs' hm hm' hb hb'
      by_cases hi : i ∈ ns
      · obtain ⟨j, hj⟩ := hidx i hi
        obtain ⟨m1, hm1⟩ := hμ'at j i hj
        rw [hat j i m1 hj hm1] at hm; simp only [Option.some.injEq] at hm; subst hm
        have k1 := hnewblk j m1 b hm1 hb
        by_cases hi' : i' ∈ ns
        · obtain ⟨j', hj'⟩ := hidx i' hi'
          obtain ⟨m1', hm1'⟩ := hμ'at j' i' hj'
          rw [hat j' i' m1' hj' hm1'] at hm'; simp only [Option.some.injEq] at hm'; subst hm'
          obtain ⟨l1, hl1'⟩ := hlat j i hj
          obtain ⟨l2, hl2'⟩ := hlat j' i' hj'
          have : j = j' := hw'.sep j j' ⟨0, some l1⟩ ⟨0, some l2⟩ m1 m1' b (by rw [List.getElem?_map, hl1']; rfl) rfl (by rw [List.getElem?_map, hl2']; rfl) rfl hm1 hm1' hb hb'
          subst this
          rw [hj] at hj'; simpa using hj'
        · rw [hnot i' hi'] at hm'; rw [hfillne i' hi'] at hgi'
          obtain ⟨gv, gc⟩ := g'
          obtain ⟨l, rfl⟩ := Option.isSome_iff_exists.1 hs'
          have := (hstay i' gv l m' b hgi' hm' hb').1
          omega
      · rw [hnot i hi] at hm; rw [hfillne i hi] at hgi
        obtain ⟨gv, gc⟩ := g
        obtain ⟨l, rfl⟩ := Option.isSome_iff_exists.1 hs
        have k1 := (hstay i gv l m b hgi hm hb).1
        by_cases hi' : i' ∈ ns
        · obtain ⟨j', hj'⟩ := hidx i' hi'
          obtain ⟨m1', hm1'⟩ := hμ'at j' i' hj'
          rw [hat j' i' m1' hj' hm1'] at hm'; simp only [Option.some.injEq] at hm'; subst hm'
          have := hnewblk j' m1' b hm1' hb'
          omega
        · rw [hnot i' hi'] at hm'; rw [hfillne i' hi'] at hgi'
          exact hw.sep i i' _ g' m m' b hgi hs hgi' hs' hm hm' hb hb'
  · intro i m' hm'
    obtain ⟨p, hp⟩ : ∃ p, ns[i]? = some p := getElem?_of_lt (by rw [hlen, ← hl1]; exact lt_of_getElem? hm')
    obtain ⟨ver, hv⟩ := hns p (List.mem_of_getElem? hp)
    have : sigma (newNames ns Γ2) i = (p, ver + 1) := by simp [sigma, List.getD, newNames, hp, hv]
    rw [this, hat i p m' hp hm', hv]
    exact ⟨by simp, by simp⟩

theorem newNames_live {Γ Γ2 : List Ob} {ns : List Nat} {ls : List (List AV)} (hlen : ns.length = ls.length) (hd : ∀ f ∈ ns.zip ls, Γ2[f.1]? = Γ[f.1]?) : newNames ns Γ2 = newNames ns Γ := by
  apply List.map_congr_left
  intro p hp
  obtain ⟨i, hi, e⟩ := List.mem_iff_getElem.1 hp
  have : (p, ls[i]'(by omega)) ∈ ns.zip ls := List.mem_of_getElem? (i := i) (by rw [List.getElem?_zip_eq_some]; exact ⟨by rw [List.getElem?_eq_getElem hi, e], List.getElem?_eq_getElem (by omega)⟩)
  rw [hd _ this]

/-- A call that hands back new own objects (ns: their names); its arguments hang on no names. -/
theorem TOp.callN {f : FuncId} {A : List AV} {r : AV} {ls : List (List AV)} (ns : List Nat) (hc : CallAs P o τ f A) (hA : AV.lts 0 A = true) (hev : Ev P f A [] r (ls.map fun l => ⟨0, some l⟩)) (hl0 : ls.all (AV.lts 0) = true) (hlen : ns.length = ls.length) (hnd : ns.Nodup) (hns : ∀ p ∈ ns, ∃ ver, Γ[p]? = some ⟨ver, none⟩) :
    TOp P o τ Γ (r.ren (sigma (newNames ns Γ))) (ns.zip ls) := by
  intro S μ Γ2 a w _ hd hw h next Q hn
  obtain ⟨vs, hrun, hvs⟩ := hc S μ a w h
  unfold Oper.wp
  rw [hrun, Oper.upon_enter]
  refine (hev S [] w vs ⟨hw.snap, rfl, by simp, by simp, by simp⟩ (VL.pure hA hvs)).mono ?_
  rintro e w' ⟨v, S', μ', rfl, hv, hw', hfr⟩
  have hns2 : ∀ p ∈ ns, ∃ ver, Γ2[p]? = some ⟨ver, none⟩ := by
    intro p hp
    obtain ⟨i, hi, e⟩ := List.mem_iff_getElem.1 hp
    have : (p, ls[i]'(by omega)) ∈ ns.zip ls := List.mem_of_getElem? (i := i) (by rw [List.getElem?_zip_eq_some]; exact ⟨by rw [List.getElem?_eq_getElem hi, e], List.getElem?_eq_getElem (by omega)⟩)
    rw [hd _ this]; exact hns p hp
  obtain ⟨μ'', h1, h2, h3⟩ := TOp.new_core hw hfr hw' hl0 hlen hnd hns2 hfr.ext hfr.sf hw'.snap (fun b => .inr rfl) (fun _ _ _ h => h)
  rw [newNames_live hlen hd] at h3
  exact hn S' μ'' v w' hfr.ext hfr.sf h1 h2 (V.ren h3 r v hv) hfr.toGrow
/-- The same with own objects lent to the call: nothing that comes back hangs on what is settled. -/
theorem TOp.callBN {f : FuncId} {A A' : List AV} {r : AV} {ls : List (List AV)} (ns : List Nat) (hc : CallAs P o τ f A) (hA : Bors Γ A A') (hs : r.nos = true) (hev : Ev P f A' [] r (ls.map fun l => ⟨0, some l⟩)) (hl0 : ls.all (AV.lts 0) = true) (hls : ls.all AV.noss = true) (hlen : ns.length = ls.length) (hnd : ns.Nodup) (hns : ∀ p ∈ ns, ∃ ver, Γ[p]? = some ⟨ver, none⟩) :
    TOp P o τ Γ (r.ren (sigma (newNames ns Γ))) (ns.zip ls) := by
  intro S μ Γ2 a w hL hd hw h next Q hn
  obtain ⟨vs, hrun, hvs⟩ := hc S μ a w h
  unfold Oper.wp
  rw [hrun, Oper.upon_enter]
  have hle := lend_lent hw
  refine (hev (lend S μ Γ2 w) [] w vs (lend_snap hw) (hA S μ Γ2 w _ vs.toList hL hw hle hvs)).mono ?_
  rintro e w' ⟨v, S', μ', rfl, hv, hw', hfr⟩
  have hg := hfr.toGrow
  have hns2 : ∀ p ∈ ns, ∃ ver, Γ2[p]? = some ⟨ver, none⟩ := by
    intro p hp
    obtain ⟨i, hi, e⟩ := List.mem_iff_getElem.1 hp
    have : (p, ls[i]'(by omega)) ∈ ns.zip ls := List.mem_of_getElem? (i := i) (by rw [List.getElem?_zip_eq_some]; exact ⟨by rw [List.getElem?_eq_getElem hi, e], List.getElem?_eq_getElem (by omega)⟩)
    rw [hd _ this]; exact hns p hp
  -- back to what was settled ahead of the call
  have hw0 : WI S' μ' (ls.map fun l => (⟨0, some l⟩ : Ob)) w' := hw'
  have hfr0 : FrI S [] w S' μ' w' ∨ True := .inr trivial
  have hfrS : FrI S [] w S μ' w' :=
    ⟨fun b c hb => hb, hfr.le, hfr.new, hfr.keep, hfr.size, hfr.os, hfr.tape, hfr.output, fun b c hb => .inl hb⟩
  have hwS : WI S μ' (ls.map fun l => (⟨0, some l⟩ : Ob)) w' := by
    refine ⟨fun b c hb => (hw.snap b c hb).elim fun T hT => hT.elim fun m hm => ⟨T, m, (hg.block b (snap_lt hw.snap hb)).trans hm⟩, hw'.len, hw'.ver, fun p ver l m hp hm => ?_, hw'.sep⟩
    have h0 := hw'.own p ver l m hp hm
    obtain ⟨l', hl', e⟩ : ∃ l', ls[p]? = some l' ∧ l' = l := by
      rw [List.getElem?_map] at hp
      cases hq : ls[p]? with
      | none => rw [hq] at hp; simp at hp
      | some l' => rw [hq] at hp; simp at hp; exact ⟨l', rfl, hp.2⟩
    subst e
    have hno : AV.noss l' = true := List.all_eq_true.1 hls l' (List.mem_of_getElem? hl')
    unfold OwnAt at h0 ⊢
    split at h0
    · exact h0
    · rename_i b hb
      obtain ⟨k1, cs, T, k2, k3, k4⟩ := h0
      refine ⟨?_, cs, T, k2, k3, VP.noS hno k4⟩
      cases hsb : S b with
      | none => rfl
      | some c =>
        have := (hle.ext.trans hfr.ext) b c hsb
        rw [k1] at this; cases this
  obtain ⟨μ'', h1, h2, h3⟩ := TOp.new_core hw hfrS hwS hl0 hlen hnd hns2 (SExt.refl S) (SFresh.refl _ S) hwS.snap (fun b => .inr rfl) (fun _ _ _ h => h)
  rw [newNames_live hlen hd] at h3
  exact hn S μ'' v w' (SExt.refl S) (SFresh.refl _ S) h1 h2 (V.ren h3 r v (V.noS r v hs hv)) hg
end
end Go.AM

/- The abstract layer: what the generated functions are written in, and the forms in which the generated proofs use the layer. -/
namespace Go.AM

/-! plain functions -/
def obind {α β : Type} (x : Option α) (k : α → Option β) : Option β := x.bind k
def obind2 {α β γ : Type} (x : Option (α × β)) (k : α → β → Option γ) : Option γ := x.bind fun y => k y.1 y.2
def obind3 {α β γ δ : Type} (x : Option (α × β × γ)) (k : α → β → γ → Option δ) : Option δ := x.bind fun y => k y.1 y.2.1 y.2.2
def obind4 {α β γ δ ε : Type} (x : Option (α × β × γ × δ)) (k : α → β → γ → δ → Option ε) : Option ε := x.bind fun y => k y.1 y.2.1 y.2.2.1 y.2.2.2
def obind5 {α β γ δ ε ζ : Type} (x : Option (α × β × γ × δ × ε)) (k : α → β → γ → δ → ε → Option ζ) : Option ζ := x.bind fun y => k y.1 y.2.1 y.2.2.1 y.2.2.2.1 y.2.2.2.2
def obind6 {α β γ δ ε ζ η : Type} (x : Option (α × β × γ × δ × ε × ζ)) (k : α → β → γ → δ → ε → ζ → Option η) : Option η := x.bind fun y => k y.1 y.2.1 y.2.2.1 y.2.2.2.1 y.2.2.2.2.1 y.2.2.2.2.2
def obind7 {α β γ δ ε ζ η θ : Type} (x : Option (α × β × γ × δ × ε × ζ × η)) (k : α → β → γ → δ → ε → ζ → η → Option θ) : Option θ := x.bind fun y => k y.1 y.2.1 y.2.2.1 y.2.2.2.1 y.2.2.2.2.1 y.2.2.2.2.2.1 y.2.2.2.2.2.2
def obind8 {α β γ δ ε ζ η θ ι : Type} (x : Option (α × β × γ × δ × ε × ζ × η × θ)) (k : α → β → γ → δ → ε → ζ → η → θ → Option ι) : Option ι := x.bind fun y => k y.1 y.2.1 y.2.2.1 y.2.2.2.1 y.2.2.2.2.1 y.2.2.2.2.2.1 y.2.2.2.2.2.2.1 y.2.2.2.2.2.2.2
theorem obind_some {α β : Type} {x : Option α} {k : α → Option β} {r : β} (h : obind x k = some r) : ∃ a, x = some a ∧ k a = some r := Option.bind_eq_some_iff.1 h
theorem obind2_some {α β γ : Type} {x : Option (α × β)} {k : α → β → Option γ} {r : γ} (h : obind2 x k = some r) : ∃ a b, x = some (a, b) ∧ k a b = some r := by
  obtain ⟨⟨a, b⟩, h1, h2⟩ := Option.bind_eq_some_iff.1 h; exact ⟨a, b, h1, h2⟩
theorem obind3_some {α β γ δ : Type} {x : Option (α × β × γ)} {k : α → β → γ → Option δ} {r : δ} (h : obind3 x k = some r) : ∃ a b c, x = some (a, b, c) ∧ k a b c = some r := by
  obtain ⟨⟨a, b, c⟩, h1, h2⟩ := Option.bind_eq_some_iff.1 h; exact ⟨a, b, c, h1, h2⟩
theorem obind4_some {α β γ δ ε : Type} {x : Option (α × β × γ × δ)} {k : α → β → γ → δ → Option ε} {r : ε} (h : obind4 x k = some r) : ∃ a b c d, x = some (a, b, c, d) ∧ k a b c d = some r := by
  obtain ⟨⟨a, b, c, d⟩, h1, h2⟩ := Option.bind_eq_some_iff.1 h; exact ⟨a, b, c, d, h1, h2⟩
theorem obind5_some {α β γ δ ε ζ : Type} {x : Option (α × β × γ × δ × ε)} {k : α → β → γ → δ → ε → Option ζ} {r : ζ} (h : obind5 x k = some r) : ∃ a b c d e, x = some (a, b, c, d, e) ∧ k a b c d e = some r := by
  obtain ⟨⟨a, b, c, d, e⟩, h1, h2⟩ := Option.bind_eq_some_iff.1 h; exact ⟨a, b, c, d, e, h1, h2⟩
theorem obind6_some {α β γ δ ε ζ η : Type} {x : Option (α × β × γ × δ × ε × ζ)} {k : α → β → γ → δ → ε → ζ → Option η} {r : η} (h : obind6 x k = some r) : ∃ a b c d e f, x = some (a, b, c, d, e, f) ∧ k a b c d e f = some r := by
  obtain ⟨⟨a, b, c, d, e, f⟩, h1, h2⟩ := Option.bind_eq_some_iff.1 h; exact ⟨a, b, c, d, e, f, h1, h2⟩
theorem obind7_some {α β γ δ ε ζ η θ : Type} {x : Option (α × β × γ × δ × ε × ζ × η)} {k : α → β → γ → δ → ε → ζ → η → Option θ} {r : θ} (h : obind7 x k = some r) : ∃ a b c d e f g, x = some (a, b, c, d, e, f, g) ∧ k a b c d e f g = some r := by
  obtain ⟨⟨a, b, c, d, e, f, g⟩, h1, h2⟩ := Option.bind_eq_some_iff.1 h; exact ⟨a, b, c, d, e, f, g, h1, h2⟩
theorem obind8_some {α β γ δ ε ζ η θ ι : Type} {x : Option (α × β × γ × δ × ε × ζ × η × θ)} {k : α → β → γ → δ → ε → ζ → η → θ → Option ι} {r : ι} (h : obind8 x k = some r) : ∃ a b c d e f g i, x = some (a, b, c, d, e, f, g, i) ∧ k a b c d e f g i = some r := by
  obtain ⟨⟨a, b, c, d, e, f, g, i⟩, h1, h2⟩ := Option.bind_eq_some_iff.1 h; exact ⟨a, b, c, d, e, f, g, i, h1, h2⟩
@[simp] theorem obind_none {α β : Type} (k : α → Option β) : obind none k = none := rfl
@[simp] theorem obind_eq {α β : Type} (a : α) (k : α → Option β) : obind (some a) k = k a := rfl
@[simp] theorem obind2_eq {α β γ : Type} (a : α) (b : β) (k : α → β → Option γ) : obind2 (some (a, b)) k = k a b := rfl
@[simp] theorem obind3_eq {α β γ δ : Type} (a : α) (b : β) (c : γ) (k : α → β → γ → Option δ) : obind3 (some (a, b, c)) k = k a b c := rfl
@[simp] theorem obind4_eq {α β γ δ ε : Type} (a : α) (b : β) (c : γ) (d : δ) (k : α → β → γ → δ → Option ε) : obind4 (some (a, b, c, d)) k = k a b c d := rfl
@[simp] theorem obind5_eq {α β γ δ ε ζ : Type} (a : α) (b : β) (c : γ) (d : δ) (e : ε) (k : α → β → γ → δ → ε → Option ζ) : obind5 (some (a, b, c, d, e)) k = k a b c d e := rfl
@[simp] theorem obind6_eq {α β γ δ ε ζ η : Type} (a : α) (b : β) (c : γ) (d : δ) (e : ε) (f : ζ) (k : α → β → γ → δ → ε → ζ → Option η) : obind6 (some (a, b, c, d, e, f)) k = k a b c d e f := rfl
@[simp] theorem obind7_eq {α β γ δ ε ζ η θ : Type} (a : α) (b : β) (c : γ) (d : δ) (e : ε) (f : ζ) (g : η) (k : α → β → γ → δ → ε → ζ → η → Option θ) : obind7 (some (a, b, c, d, e, f, g)) k = k a b c d e f g := rfl
@[simp] theorem obind8_eq {α β γ δ ε ζ η θ ι : Type} (a : α) (b : β) (c : γ) (d : δ) (e : ε) (f : ζ) (g : η) (i : θ) (k : α → β → γ → δ → ε → ζ → η → θ → Option ι) : obind8 (some (a, b, c, d, e, f, g, i)) k = k a b c d e f g i := rfl
def bsel {α : Type} (c : Bool) (x y : Option α) : Option α := cond c x y
theorem bsel_some {α : Type} {c : Bool} {x y : Option α} {r : α} (h : bsel c x y = some r) : (c = true ∧ x = some r) ∨ (c = false ∧ y = some r) := by
  cases c
  · exact .inr ⟨rfl, h⟩
  · exact .inl ⟨rfl, h⟩
@[simp] theorem bsel_true {α : Type} (x y : Option α) : bsel true x y = x := rfl
@[simp] theorem bsel_false {α : Type} (x y : Option α) : bsel false x y = y := rfl
theorem bsel_if {α : Type} (c : Bool) (x y : Option α) : bsel c x y = if c = true then x else y := by cases c <;> rfl
def olet {α β : Type} (a : α) (k : α → Option β) : Option β := k a
theorem olet_some {α β : Type} {a : α} {k : α → Option β} {r : β} (h : olet a k = some r) : ∃ x, a = x ∧ k x = some r := ⟨a, rfl, h⟩
@[simp] theorem olet_eq {α β : Type} (a : α) (k : α → Option β) : olet a k = k a := rfl
def need {α : Type} (c : Bool) (x : Option α) : Option α := cond c x none
theorem need_some {α : Type} {c : Bool} {x : Option α} {r : α} (h : need c x = some r) : c = true ∧ x = some r := by
  cases c
  · cases h
  · exact ⟨rfl, h⟩
@[simp] theorem need_true {α : Type} (x : Option α) : need true x = x := rfl
@[simp] theorem need_false {α : Type} (x : Option α) : need false x = none := rfl
def osum {ε ρ α : Type} (x : ε ⊕ ρ) (k : ε → Option α) (j : ρ → Option α) : Option α := match x with
  | .inl e => k e
  | .inr r => j r
@[simp] theorem osum_inl {ε ρ α : Type} (e : ε) (k : ε → Option α) (j : ρ → Option α) : osum (.inl e) k j = k e := rfl
@[simp] theorem osum_inr {ε ρ α : Type} (r : ρ) (k : ε → Option α) (j : ρ → Option α) : osum (.inr r) k j = j r := rfl

/-- One round of a loop: on, out of it, or back from the function. -/
inductive LR (σ ε ρ : Type) where
  | next (s : σ)
  | out (e : ε)
  | ret (r : ρ)
def iter {σ ε ρ : Type} (step : σ → Option (LR σ ε ρ)) : Nat → σ → Option (ε ⊕ ρ)
  | 0, _ => none
  | n + 1, s => match step s with
    | none => none
    | some (.next s') => iter step n s'
    | some (.out e) => some (.inl e)
    | some (.ret r) => some (.inr r)
theorem iter_det {σ ε ρ : Type} {step : σ → Option (LR σ ε ρ)} : ∀ {n m : Nat} {s : σ} {x y : ε ⊕ ρ}, iter step n s = some x → iter step m s = some y → x = y
  | 0, _, _, _, _, h, _ => by simp [iter] at h
  | _ + 1, 0, _, _, _, _, h => by simp [iter] at h
  | n + 1, m + 1, s, x, y, h, k => by
    simp only [iter] at h k
    split at h
    · cases h
    · rename_i e; rw [e] at k; exact iter_det h k
    · rename_i e; rw [e] at k; rw [← Option.some.inj h, ← Option.some.inj k]
    · rename_i e; rw [e] at k; rw [← Option.some.inj h, ← Option.some.inj k]
open Classical in
noncomputable def loopM {σ ε ρ : Type} (step : σ → Option (LR σ ε ρ)) (s : σ) : Option (ε ⊕ ρ) :=
  if h : ∃ x, ∃ n, iter step n s = some x then some h.choose else none
theorem loopM_iff {σ ε ρ : Type} {step : σ → Option (LR σ ε ρ)} {s : σ} {x : ε ⊕ ρ} : loopM step s = some x ↔ ∃ n, iter step n s = some x := by
  unfold loopM
  constructor
  · intro h
    split at h
    · rename_i hex
      obtain ⟨n, hn⟩ := hex.choose_spec
      rw [← Option.some.inj h]; exact ⟨n, hn⟩
    · cases h
  · rintro ⟨n, hn⟩
    have hex : ∃ x, ∃ n, iter step n s = some x := ⟨x, n, hn⟩
    rw [dif_pos hex]
    obtain ⟨m, hm⟩ := hex.choose_spec
    rw [iter_det hm hn]
theorem loopM_next {σ ε ρ : Type} {step : σ → Option (LR σ ε ρ)} {s s' : σ} (h : step s = some (.next s')) : loopM step s = loopM step s' := by
  apply Option.ext
  intro x
  rw [loopM_iff, loopM_iff]
  constructor
  · rintro ⟨n, hn⟩
    cases n with
    | zero => simp [iter] at hn
    | succ n => simp only [iter, h] at hn; exact ⟨n, hn⟩
  · rintro ⟨n, hn⟩
    exact ⟨n + 1, by simp only [iter, h]; exact hn⟩
theorem loopM_out {σ ε ρ : Type} {step : σ → Option (LR σ ε ρ)} {s : σ} {e : ε} (h : step s = some (.out e)) : loopM step s = some (.inl e) := by
  rw [loopM_iff]; exact ⟨1, by simp only [iter, h]⟩
theorem loopM_ret {σ ε ρ : Type} {step : σ → Option (LR σ ε ρ)} {s : σ} {r : ρ} (h : step s = some (.ret r)) : loopM step s = some (.inr r) := by
  rw [loopM_iff]; exact ⟨1, by simp only [iter, h]⟩

/-- Reading and writing a list at an integer place. -/
def at? {α : Type} (l : List α) (i : Int) : Option α := if 0 ≤ i then l[i.toNat]? else none
theorem at?_spec {α : Type} {l : List α} {i : Int} {a : α} (h : at? l i = some a) : 0 ≤ i ∧ i.toNat < l.length ∧ l[i.toNat]? = some a := by
  unfold at? at h
  split at h
  · rename_i h0; exact ⟨h0, lt_of_getElem? h, h⟩
  · cases h
def setAt? {α : Type} (l : List α) (i : Int) (a : α) : Option (List α) := if 0 ≤ i ∧ i.toNat < l.length then some (l.set i.toNat a) else none
theorem setAt?_spec {α : Type} {l l' : List α} {i : Int} {a : α} (h : setAt? l i a = some l') : 0 ≤ i ∧ i.toNat < l.length ∧ l' = l.set i.toNat a := by
  unfold setAt? at h
  split at h
  · rename_i h0; exact ⟨h0.1, h0.2, (Option.some.inj h).symm⟩
  · cases h
theorem setAt?_len {α : Type} {l l' : List α} {i : Int} {a : α} (h : setAt? l i a = some l') : l'.length = l.length := by
  obtain ⟨_, _, rfl⟩ := setAt?_spec h; simp

/-! machine forms -/
section
variable {P : Program} {N : Nat} {o : Oper} {τ : List (Nat × AV)} {Γ : List Ob} {Q : PQ}

theorem LOp.eqr {r r' : AV} (h : LOp P o τ r) (e : r = r') : LOp P o τ r' := e ▸ h
theorem TOp.eqr {r r' : AV} {fs : List (Nat × List AV)} (h : TOp P o τ Γ r fs) (e : r = r') : TOp P o τ Γ r' fs := e ▸ h

theorem RunC.cut {c : Code} {K : List (Nat × AV) → List Ob → Prop} (Mid : List (Nat × AV) → List Ob → Prop) (h1 : RunC P N c τ Γ (thenQ Mid Q)) (h2 : ∀ τ Γ, Mid τ Γ → K τ Γ) : RunC P N c τ Γ (thenQ K Q) := by
  refine h1.mono fun e τ Γ h => ?_
  cases e <;> first | exact h2 τ Γ h | exact h

theorem RunL.loopM {c : Code} {σ ε ρ : Type} {x : ε ⊕ ρ} (step : σ → Option (LR σ ε ρ)) (Fit : σ → List (Nat × AV) → List Ob → Prop)
    (h : ∀ s τ Γ y, Fit s τ Γ → step s = some y → (∀ e, y = .out e → x = .inl e) → (∀ r, y = .ret r → x = .inr r) → RunC P N c τ Γ (thenQ (fun τ Γ => ∃ s', y = .next s' ∧ Fit s' τ Γ) Q)) :
    ∀ s τ Γ, AM.loopM step s = some x → Fit s τ Γ → RunL P N c τ Γ Q := by
  have key : ∀ (n : Nat) (s : σ) (τ : List (Nat × AV)) (Γ : List Ob), iter step n s = some x → Fit s τ Γ → RunL P N c τ Γ Q := by
    intro n
    induction n with
    | zero => intro s τ Γ hn; simp [iter] at hn
    | succ n ih =>
      intro s τ Γ hn hf
      simp only [iter] at hn
      split at hn
      · cases hn
      · rename_i s' e
        refine RunL.step (RunC.cut _ (h s τ Γ _ hf e (fun _ h => by cases h) (fun _ h => by cases h)) ?_)
        rintro τ' Γ' ⟨s'', e', hf'⟩
        cases e'
        exact ih s' τ' Γ' hn hf'
      · rename_i e1 e
        refine RunL.step (RunC.cut _ (h s τ Γ _ hf e (fun e2 h => by cases h; exact (Option.some.inj hn).symm) (fun _ h => by cases h)) ?_)
        rintro τ' Γ' ⟨s'', e', hf'⟩
        cases e'
      · rename_i e1 e
        refine RunL.step (RunC.cut _ (h s τ Γ _ hf e (fun _ h => by cases h) (fun e2 h => by cases h; exact (Option.some.inj hn).symm)) ?_)
        rintro τ' Γ' ⟨s'', e', hf'⟩
        cases e'
  intro s τ Γ hl hf
  obtain ⟨n, hn⟩ := loopM_iff.1 hl
  exact key n s τ Γ hn hf

theorem lts0_map {α : Type} {f : α → AV} (hf : ∀ x, (f x).lt 0 = true) (l : List α) : AV.lts 0 (l.map f) = true := by
  induction l with
  | nil => rfl
  | cons a l ih => simp [AV.lts, hf, ih]
theorem noss_map {α : Type} {f : α → AV} (hf : ∀ x, (f x).nos = true) (l : List α) : AV.noss (l.map f) = true := by
  induction l with
  | nil => rfl
  | cons a l ih => simp [AV.noss, hf, ih]
theorem and_all {α : Type} {p : α → Bool} {a : α} {l : List α} (h : p a = true) (k : l.all p = true) : (a :: l).all p = true := by simp [h]; simpa using k

/-- A settled slice's element. -/
theorem LOp.ix {α : Type} {f : α → AV} {l : List α} {y : α} {t e : TypeId} {x ix : Operand} {k : IntKind} {i : Int} {n : Nat} (ht : ∀ w, (underlying t).run P w = .ok (.slice e) w) (he : ∀ w, (sizeOf e).run P w = .ok 1 w)
    (ho : o.op = .indexAddr t x ix) (hx : ev τ x = .sl n (l.map f)) (hn : l.length = n) (hi : ev τ ix = .x (.int k i)) (hy : at? l i = some y) : LOp P o τ (.ptr (f y :: (l.map f).drop (i.toNat + 1))) := by
  obtain ⟨h0, h1, h2⟩ := at?_spec hy
  refine LOp.indexAddr_sl ht he ho hx hi h0 (by omega) (fun e => by rw [List.map_eq_nil_iff] at e; subst e; simp at h1) ?_
  rw [List.drop_eq_getElem_cons (by simpa using h1)]
  congr 1
  rw [List.getElem?_eq_getElem h1] at h2
  rw [List.getElem_map, Option.some.inj h2]
end
end Go.AM

/- The abstract layer: further operations and forms for generated proofs. -/
namespace Go.AM
section
variable {P : Program} {N : Nat} {o : Oper} {τ : List (Nat × AV)} {Γ : List Ob} {Q : PQ}

/-- One claim says no more than another. -/
def ALe (a b : AV) : Prop := ∀ S μ v, V S μ a v → V S μ b v
theorem ALe.refl (a : AV) : ALe a a := fun _ _ _ h => h
theorem ALe.any (a : AV) : ALe a .any := fun _ _ _ _ => by simp only [V]
theorem ALe.fl {k : FloatKind} {b : Nat} (hb : Nat.blt b (2 ^ k.format.width) = true) (hn : (k.format.read b).isNaN = false) : ALe (.x (.float k b)) (.f k (some b)) := by
  intro S μ v h
  simp only [V] at h ⊢
  exact ⟨b, h, rfl, by simpa using hb, hn⟩
theorem ALe.cpx {k : FloatKind} {a b : Nat} (ha : Nat.blt a (2 ^ k.format.width) = true) (hb : Nat.blt b (2 ^ k.format.width) = true) (hn : (k.format.read a).isNaN = false) (hm : (k.format.read b).isNaN = false) : ALe (.x (.complex k a b)) (.cx k (some a) (some b)) := by
  intro S μ v h
  simp only [V] at h ⊢
  exact ⟨a, b, h, ⟨rfl, by simpa using ha, hn⟩, ⟨rfl, by simpa using hb, hm⟩⟩
theorem ALe.nilsl : ALe .nilsl (.sl 0 []) := by
  intro S μ v hv
  simp only [V] at hv ⊢
  exact ⟨none, 0, hv, Nat.le_refl _, .inl trivial⟩
theorem ALe.ptr {a : AV} {l : List AV} : ALe (.ptr (a :: l)) (.ptr [a]) := by
  intro S μ v hv
  simp only [V] at hv ⊢
  obtain ⟨b, off, cs, h1, h2, h3⟩ := hv
  exact ⟨b, off, cs, h1, h2, by simpa using h3.take 1⟩
theorem LOp.le {r r' : AV} (h : LOp P o τ r) (e : ALe r r') : LOp P o τ r' := fun S μ a hx => (h S μ a hx).elim fun v hv => ⟨v, hv.1, e S μ v hv.2⟩
theorem TOp.le {r r' : AV} {fs : List (Nat × List AV)} (h : TOp P o τ Γ r fs) (e : ALe r r') : TOp P o τ Γ r' fs := fun S μ Γ2 a w h1 h2 h3 h4 next Q hn => h S μ Γ2 a w h1 h2 h3 h4 next Q fun S' μ' v w' k1 k2 k3 k4 k5 k6 => hn S' μ' v w' k1 k2 k3 k4 (e S' μ' v k5) k6
theorem Bor.le {a b c : AV} (h : ALe a b) (k : Bor Γ b c) : Bor Γ a c := fun S μ Γ2 w Sb v h1 h2 h3 hv => k S μ Γ2 w Sb v h1 h2 h3 (h S μ v hv)
theorem Bor.sl {α : Type} {f : α → AV} (hf : ∀ x, (f x).lt 0 = true) {n : Nat} {l : List α} : Bor Γ (.sl n (l.map f)) (.sl n (l.map f)) := Bor.pure (lts0_map hf l)
/-- A full own slice lent. -/
theorem Bor.own {α : Type} {f : α → AV} (hf : ∀ x, (f x).lt 0 = true) {p ver n : Nat} {l : List α} (hp : Γ[p]? = some ⟨ver, some (l.map f)⟩) (hn : l.length = n) : Bor Γ (.oref p ver 0 n) (.sl l.length (l.map f)) := by
  subst hn
  exact Bor.oref hp (Bors.pure (lts0_map hf l)).p (by simp)

/-- Claims of a list, one no more than the other. -/
def ALes : List AV → List AV → Prop
  | [], [] => True
  | a :: l, b :: m => ALe a b ∧ ALes l m
  | _, _ => False
theorem ALes.vl : ∀ {l m : List AV}, ALes l m → ∀ {S : Snap} {μ : List Mu} {vs : List Value}, VL S μ l vs → VL S μ m vs
  | [], [], _, _, _, _, h => h
  | a :: l, b :: m, k, S, μ, vs, h => by
    cases vs with
    | nil => simp only [VL] at h
    | cons v vs =>
      simp only [VL] at h ⊢
      exact ⟨k.1 _ _ _ h.1, ALes.vl k.2 h.2⟩
  | [], _ :: _, k, _, _, _, _ => k.elim
  | _ :: _, [], k, _, _, _, _ => k.elim

/-! struct values out of parts -/
def fillA (place : Nat → Option (Nat × Nat)) : List AV → List (Nat × List AV) → Option (List AV)
  | cells, [] => some cells
  | cells, (i, l) :: rest => match place i with
    | none => none
    | some (off, size) => if l.length = size ∧ off + l.length ≤ cells.length then fillA place (overlay cells off l) rest else none
def PartsOk (τ : List (Nat × AV)) : List (Nat × Operand) → List (Nat × List AV) → Prop
  | [], [] => True
  | (i, x) :: ps, (j, l) :: qs => i = j ∧ (∃ a, ALe (ev τ x) a ∧ a.cells? = some l) ∧ PartsOk τ ps qs
  | _, _ => False
theorem overlay_foldl {α : Type} (m : List α) : ∀ (k off : Nat) (cs : Array α), off + k + m.length ≤ cs.size →
    ((m.zipIdx k).foldl (fun cs (p : α × Nat) => cs.setIfInBounds (off + p.2) p.1) cs).toList = overlay cs.toList (off + k) m := by
  induction m with
  | nil => intro k off cs _; simp [overlay]
  | cons x m ih =>
    intro k off cs h
    simp only [List.length_cons] at h
    simp only [List.zipIdx_cons, List.foldl_cons]
    rw [ih (k + 1) off _ (by simp; omega)]
    rw [overlay_cons (by simp; omega)]
    simp [Nat.add_assoc]
theorem fill_ok {S : Snap} {μ : List Mu} {a : Act} (place : Nat → Option (Nat × Nat)) : ∀ (ps : List (Nat × Operand)) (qs : List (Nat × List AV)) (cells : List AV) (cs : Array Value) (r : List AV), PartsOk τ ps qs → (∀ p ∈ ps, V S μ (ev τ p.2) (a.eval p.2)) → VL S μ cells cs.toList → fillA place cells qs = some r →
    ∃ cs', Instr.fill place cs (ps.map fun p => (p.1, a.eval p.2)) = some cs' ∧ VL S μ r cs'.toList
  | [], [], cells, cs, r, _, _, hv, hf => by
    simp only [fillA, Option.some.injEq] at hf
    subst hf
    exact ⟨cs, rfl, hv⟩
  | (i, x) :: ps, (j, l) :: qs, cells, cs, r, hp, hx, hv, hf => by
    obtain ⟨rfl, ⟨b, h1, h2⟩, h3⟩ := hp
    simp only [fillA] at hf
    cases hpl : place i with
    | none => rw [hpl] at hf; cases hf
    | some os =>
      obtain ⟨off, size⟩ := os
      rw [hpl] at hf
      simp only at hf
      split at hf
      · rename_i hc
        have h4 := (h1 _ _ _ (hx (i, x) (by simp))).cells h2
        have h5 : (a.eval x).cells.size = l.length := by rw [← Array.length_toList]; exact h4.length
        have h6 : cs.size = cells.length := by rw [← Array.length_toList]; exact hv.length
        have h7 := overlay_foldl (a.eval x).cells.toList 0 off cs (by simp [h5]; omega)
        have h8 : VL S μ (overlay cells off l) (overlay cs.toList off (a.eval x).cells.toList) := by
          refine VL.of_vp (hv.vp.overlay h4 hc.2) ?_
          simp only [overlay, List.length_append, List.length_take, List.length_drop, Array.length_toList, h5, h6]
        obtain ⟨cs', k1, k2⟩ := fill_ok place ps qs (overlay cells off l) ((a.eval x).cells.zipIdx.foldl (fun cs (c, j) => cs.setIfInBounds (off + j) c) cs) r h3 (fun p hp => hx p (by simp [hp])) (by
          have : ((a.eval x).cells.zipIdx.foldl (fun cs (c, j) => cs.setIfInBounds (off + j) c) cs).toList = overlay cs.toList off (a.eval x).cells.toList := by
            rw [← Array.foldl_toList, Array.toList_zipIdx]; simpa using h7
          rw [this]; exact h8) hf
        refine ⟨cs', ?_, k2⟩
        simp only [List.map_cons, Instr.fill, hpl]
        rw [if_neg (by simp [h5, hc.1]; omega)]
        exact k1
      · cases hf
  | [], _ :: _, _, _, _, h, _, _, _ => h.elim
  | _ :: _, [], _, _, _, h, _, _, _ => h.elim
theorem LOp.build {t : TypeId} {parts : Array (Nat × Operand)} {fs : Array Field} {places : Array (Nat × Nat)} {z : Value} {zl r : List AV} {qs : List (Nat × List AV)} (hz : ∀ w, (zeroValue t).run P w = .ok z w) (hZ : ZeroOk zl z) (hs : ∀ w, (underlying t).run P w = .ok (.struct fs) w)
    (hpl : ∀ w, (fs.mapM fun f => Prod.mk f.offset <$> sizeOf f.type).run P w = .ok places w) (ho : o.op = .build t parts) (hps : PartsOk τ parts.toList qs) (hr : fillA (places[·]?) zl qs = some r) : LOp P o τ (.agg r) := by
  intro S μ a hx
  obtain ⟨cs', h1, h2⟩ := fill_ok (S := S) (μ := μ) (a := a) (places[·]?) parts.toList qs zl z.cells r hps (fun p hp => hx p.2 (by simp [ho, Op.operands]; exact ⟨p.1, by simpa using hp⟩)) (hZ S μ) hr
  refine ⟨.agg cs', fun w _ => ?_, ?_⟩
  · simp [execOp, ho, Instr.build, hz, hs, hpl, h1]
  · simp only [V]; exact ⟨cs', rfl, h2⟩

/-- []T{..}: an own object. -/
theorem TOp.buildSlice_o {t e : TypeId} {len : Nat} {parts : Array (Nat × Operand)} {z : Value} {za : AV} {r : List AV} {qs : List (Nat × List AV)} (p : Nat) {g : Ob} (hp : Γ[p]? = some g) (ht : ∀ w, (underlying t).run P w = .ok (.slice e) w) (hsz : ∀ w, (sizeOf e).run P w = .ok 1 w)
    (hz : ∀ w, (zeroValue e).run P w = .ok z w) (hzc : z.cells = #[z]) (hza : ∀ S μ, V S μ za z) (ho : o.op = .buildSlice t len parts) (hmax : Nat.ble len 16777216 = true) (hps : PartsOk τ parts.toList qs) (hr : fillA (fun i => some (i * 1, 1)) (List.replicate len za) qs = some r) :
    TOp P o τ Γ (.oref p (g.ver + 1) 0 len) [(p, r)] := by
  intro S μ Γ2 a w _ hd hw hx next Q hnx
  have hfill : ((Array.range (len * 1)).map fun i => (if len * 1 = 0 then (#[] : Array Value) else z.cells)[i % (if len * 1 = 0 then (#[] : Array Value) else z.cells).size]!) = (List.replicate len z).toArray := by
    apply Array.ext'
    simp only [Array.toList_map, Array.toList_range]
    apply List.ext_getElem?
    intro i
    simp only [List.getElem?_map, List.getElem?_replicate, Nat.mul_one]
    rcases Nat.lt_or_ge i len with hlt | hge
    · have : ¬ len = 0 := by omega
      simp [hlt, hzc, Nat.mod_one, this]
    · simp [Nat.not_lt.2 hge]
  have hzl : VL S μ (List.replicate len za) (List.replicate len z) := by
    clear hr hfill hmax
    induction len with
    | zero => simp only [List.replicate_zero, VL]
    | succ k ih => simp only [List.replicate_succ, VL]; exact ⟨hza S μ, by
        refine VL.of_vp ?_ (by simp)
        generalize k = k
        induction k with
        | zero => simp only [List.replicate_zero, VP]
        | succ k ih => simp only [List.replicate_succ, VP]; exact ⟨hza S μ, ih⟩⟩
  obtain ⟨cs', h1, h2⟩ := fill_ok (S := S) (μ := μ) (a := a) (fun i => some (i * 1, 1)) parts.toList qs (List.replicate len za) (List.replicate len z).toArray r hps (fun p hp => hx p.2 (by simp [ho, Op.operands]; exact ⟨p.1, by simpa using hp⟩)) (by simpa using hzl) hr
  have hrun : (execOp a.eval o).run P w = .ok (.value (.slice (some ⟨w.heap.size, 0, none⟩) len len)) (more w cs' e) := by
    have c1 : ¬ (len > 16777216) := by have := Nat.le_of_ble_eq_true hmax; omega
    by_cases hn0 : len = 0
    · subst hn0
      simp only [Nat.zero_mul, List.replicate_zero] at h1 hfill
      simp [execOp, ho, Instr.buildSlice, ht, hsz, newRow, more]
      simp at h1
      rw [show Array.range 0 = #[] from by apply Array.ext'; simp]
      simp [h1]
    · have h9 := hfill
      simp only [Nat.mul_one, if_neg hn0] at h9
      simp [execOp, ho, Instr.buildSlice, ht, hsz, newRow, more, c1, hn0, hz]
      simp at h9
      rw [h9]
      simp at h1
      simp [h1]
  unfold Oper.wp
  rw [hrun]
  have hp2 : Γ2[p]? = some g := (hd (p, r) (by simp)).trans hp
  obtain ⟨k1, k2⟩ := hw.fill_new (more_grow w cs' e) (es := 0) (l := r) (blk := some w.heap.size) (cs := cs') hp2 (fun b hb => by simp at hb; subst hb; exact ⟨Nat.le_refl _, more_new w _ e⟩) (by simp) h2.vp
  refine hnx S _ _ _ (SExt.refl S) (SFresh.refl _ S) k2 (by rw [fillOb_one hp2]; exact k1) ?_ (more_grow w _ e)
  have hml : p < μ.length := by rw [hw.len]; exact lt_of_getElem? hp2
  have hrl : r.length = len := by
    have : ∀ (qs : List (Nat × List AV)) (c r : List AV), fillA (fun i => some (i * 1, 1)) c qs = some r → r.length = c.length := by
      intro qs
      induction qs with
      | nil => intro c r h; simp only [fillA, Option.some.injEq] at h; rw [h]
      | cons q qs ih =>
        intro c r h
        obtain ⟨i, l⟩ := q
        simp only [fillA] at h
        split at h
        · rename_i hc
          rw [ih _ _ h]
          simp only [overlay, List.length_append, List.length_take, List.length_drop]
          omega
        · cases h
    simpa using this _ _ _ hr
  have hcl : cs'.size = len := by rw [← Array.length_toList, h2.length, hrl]
  simp only [V]
  refine ⟨_, _, _, by simp [hml]; rfl, Nat.le_refl _, rfl, fun _ => ?_⟩
  simp [hcl]
end
end Go.AM

/- The abstract layer: append onto own slices; what a body hands back; nil slices as own ones. -/
namespace Go.AM
section
variable {P : Program} {N : Nat} {o : Oper} {τ : List (Nat × AV)} {Γ : List Ob} {Q : PQ}

theorem WI.bump {S : Snap} {μ : List Mu} {w : World} (h : WI S μ Γ w) {p ver : Nat} {l : List AV} {m : Mu} (hp : Γ[p]? = some ⟨ver, some l⟩) (hm : μ[p]? = some m) :
    WI S (μ.set p { m with ver := ver + 1 }) (Γ.set p ⟨ver + 1, some l⟩) w ∧ MuLe 0 μ (μ.set p { m with ver := ver + 1 }) := by
  have hv := h.ver p _ m hp hm
  simp only at hv
  have hM : MuLe 0 μ (μ.set p { m with ver := ver + 1 }) := MuLe.set hm (by simp only; omega) fun b hb => .inl hb
  have hpl := lt_of_getElem? hp
  have hml := lt_of_getElem? hm
  have back : ∀ {i : Nat} {g : Ob} {m' : Mu}, (Γ.set p ⟨ver + 1, some l⟩)[i]? = some g → (μ.set p { m with ver := ver + 1 })[i]? = some m' → (i = p ∧ g = ⟨ver + 1, some l⟩ ∧ m' = { m with ver := ver + 1 }) ∨ (i ≠ p ∧ Γ[i]? = some g ∧ μ[i]? = some m') := by
    intro i g m' hg hm'
    by_cases e : p = i
    · subst e
      simp [hpl] at hg; simp [hml] at hm'
      exact .inl ⟨rfl, hg.symm, hm'.symm⟩
    · rw [List.getElem?_set_ne e] at hg hm'
      exact .inr ⟨fun h => e h.symm, hg, hm'⟩
  refine ⟨⟨h.snap, by simp [h.len], ?_, ?_, ?_⟩, hM⟩
  · intro i g m' hg hm'
    rcases back hg hm' with ⟨rfl, rfl, rfl⟩ | ⟨_, hg, hm'⟩
    · rfl
    · exact h.ver i g m' hg hm'
  · intro i v l' m' hg hm'
    rcases back hg hm' with ⟨rfl, e, rfl⟩ | ⟨_, hg, hm'⟩
    · obtain ⟨rfl, rfl⟩ : v = ver + 1 ∧ l' = l := by simpa using e
      have := h.own i ver l' m hp hm
      unfold OwnAt at this ⊢
      simp only
      split at this
      · exact this
      · obtain ⟨k1, cs, T, k2, k3, k4⟩ := this
        exact ⟨k1, cs, T, k2, k3, VP.mono (SExt.refl S) hM _ _ k4⟩
    · exact (h.own i v l' m' hg hm').mono hM
  · intro i i' g g' m1 m1' b hg hs hg' hs' hm1 hm1' hb hb'
    rcases back hg hm1 with ⟨e1, e2, e3⟩ | ⟨_, hg1, hm2⟩
    · rcases back hg' hm1' with ⟨e4, _, _⟩ | ⟨_, hg2, hm3⟩
      · rw [e1, e4]
      · subst e3; rw [e1]; exact h.sep p i' _ g' m m1' b hp rfl hg2 hs' hm hm3 hb hb'
    · rcases back hg' hm1' with ⟨e4, e5, e6⟩ | ⟨_, hg2, hm3⟩
      · subst e6; rw [e4]; exact h.sep i p g _ m1 m b hg1 hs hp rfl hm2 hm hb hb'
      · exact h.sep i i' g g' m1 m1' b hg1 hs hg2 hs' hm2 hm3 hb hb'

/-- What is appended: a slice of m elements, one cell each. -/
def ReadAs (Γ : List Ob) (a : AV) (m : Nat) (ys : List AV) : Prop :=
  ys.length = m ∧ ∀ (S : Snap) (μ : List Mu) (w : World) (v : Value), WI S μ Γ w → V S μ a v →
    ∃ ad cap, v = .slice ad m cap ∧ (m = 0 ∨ ∃ b off us, ad = some ⟨b, off, none⟩ ∧ VL S μ ys us ∧ ∀ j u, us[j]? = some u → w.cell? ⟨b, off + j, none⟩ = some u)
theorem ReadAs.sl {n : Nat} {l : List AV} (hn : l.length = n) : ReadAs Γ (.sl n l) n l := by
  refine ⟨hn, fun S μ w v hw hv => ?_⟩
  simp only [V] at hv
  obtain ⟨a, cap, h1, h2, h3⟩ := hv
  refine ⟨a, cap, h1, ?_⟩
  rcases h3 with rfl | ⟨b, off, cs, h4, h5, h6⟩
  · simp at hn; exact .inl hn.symm
  · refine .inr ⟨b, off, (cs.toList.drop off).take l.length, h4, h6.vl_take, fun j u hj => ?_⟩
    obtain ⟨T, mm, hT⟩ := hw.snap b cs h5
    have hlt := lt_of_getElem? hj
    simp only [List.length_take] at hlt
    rw [List.getElem?_take, if_pos (by omega), List.getElem?_drop] at hj
    simp only [World.cell?, hT]
    simpa using hj
theorem ReadAs.own {p ver n : Nat} {l : List AV} (hp : Γ[p]? = some ⟨ver, some l⟩) (hn : l.length = n) : ReadAs Γ (.oref p ver 0 n) n l := by
  refine ⟨hn, fun S μ w v hw hv => ?_⟩
  simp only [V] at hv
  obtain ⟨m, a, cap, h1, h2, h3, h4⟩ := hv
  have h5 := h4 (hw.ver p _ m hp h1)
  refine ⟨a, cap, h3, ?_⟩
  cases hb : m.blk with
  | none => rw [hb] at h5; exact .inl h5.2.2
  | some b =>
    rw [hb] at h5
    obtain ⟨rfl, h6, h7⟩ := h5
    obtain ⟨cs, T, e1, e2, e3, e4⟩ := own_cells hw hp h1 hb
    refine .inr ⟨b, 0, cs.toList.take l.length, rfl, e3.vl_take, fun j u hj => ?_⟩
    have hlt := lt_of_getElem? hj
    simp only [List.length_take] at hlt
    rw [List.getElem?_take, if_pos (by omega)] at hj
    simp only [World.cell?, e1, Nat.zero_add]
    simpa using hj
theorem VL.ones {S : Snap} {μ : List Mu} : ∀ (l : List AV) (vs : List Value), VL S μ l vs → l.all AV.one = true → ∀ v ∈ vs, v.oneCell' = true
  | [], [], _, _, _, hv => by cases hv
  | x :: l, u :: vs, h, ha, v, hv => by
    simp only [VL] at h
    simp only [List.all_cons, Bool.and_eq_true] at ha
    rcases List.mem_cons.1 hv with e | hv
    · subst e; exact (h.1.one ha.1).1
    · exact VL.ones l vs h.2 ha.2 v hv
  | [], _ :: _, h, _, _, _ => by simp only [VL] at h
  | _ :: _, [], h, _, _, _ => by simp only [VL] at h

theorem ROp.append {t e : TypeId} {s x : Operand} {I : TypeInfo} {z : Value} {bytes : Nat} {p ver n m : Nat} {l ys : List AV} {K : List (Nat × AV) → List Ob → Prop}
    (ht : P.underlying t = some (.slice e)) (hI : P.info? e = some I) (hz : I.zero = some z) (hsz : I.size = 1) (hby : I.bytes = bytes) (hzs : z.cells.size = 1)
    (ho : o.op = .call { callee := .builtin .append, args := #[s, x], argTypes := #[t, t] }) (hd : dstLt N o = true) (hs : ev τ s = .oref p ver 0 n) (hp : Γ[p]? = some ⟨ver, some l⟩) (hl : l.length = n) (hx : ReadAs Γ (ev τ x) m ys) (hone : ys.all AV.one = true)
    (hb : (n + m) * bytes ≤ 140737488355328) (hmx : n + m ≤ 4611686018427387904) (hK : K (put τ o.dst (.oref p (ver + 1) 0 (n + m))) (Γ.set p ⟨ver + 1, some (l ++ ys)⟩)) : ROp P N o τ Γ K := by
  intro S0 μ0 w0 S μ a w hi next Q hnx
  have hw := hi.wi
  have k1 := hi.ci.ev s
  rw [hs] at k1
  simp only [V] at k1
  obtain ⟨mm, ad, cap, h1, h2, h3, h4⟩ := k1
  have hver := hw.ver p _ mm hp h1
  simp only at hver
  have h5 := h4 hver
  obtain ⟨adx, capx, h6, h7⟩ := hx.2 S μ w _ hw (hi.ci.ev x)
  have hym := hx.1
  have hml := lt_of_getElem? h1
  have hpl := lt_of_getElem? hp
  have hmax : maxLen = 9223372036854775807 := rfl
  -- the end, once for all: the new world is the old one with new blocks, the object lies in one of them
  have fin : ∀ (v' : Value) (w' : World) (olds us : List Value), (execOp a.eval o).run P w = .ok (.value v') w' → VL S μ l olds → VL S μ ys us → 0 < n + m → w'.ownsRow w.heap.size e 1 v' (n + m) (olds ++ us) → w.grownBy w' none → o.wp P a w next Q := by
    intro v' w' olds us hrun hol hus hpos hrow hgr
    unfold Oper.wp
    rw [hrun]
    obtain ⟨_, hrow⟩ := hrow
    rcases hrow with ⟨_, h0⟩ | ⟨g, cap', cur, rfl, hg1, hg2, hg3, hg4, hg5, hg6⟩
    · omega
    · have hG : Grow w w' := ⟨hgr.size, fun b hb => hgr.block b hb (fun e => by cases e), hgr.os, hgr.tape, hgr.output⟩
      have hvp : VP S μ (l ++ ys) cur.toList := by
        have e1 : cur.toList = (olds ++ us) ++ cur.toList.drop ((n + m) * 1) := by rw [← hg6, List.take_append_drop]
        rw [e1, List.append_assoc]
        refine VP.app hol ?_
        have := VP.app hus (l' := []) (vs' := cur.toList.drop ((n + m) * 1)) (by simp only [VP])
        simpa using this
      obtain ⟨q1, q2⟩ := hw.fill_new hG (es := 0) (l := l ++ ys) (blk := some g) (cs := cur) (T := e) hp (fun b hb => by simp at hb; subst hb; exact ⟨hg1, hg2⟩) (by simp) hvp
      refine hnx S _ _ w' _ _ (SExt.refl S) hK ⟨hi.fr.grow (SExt.refl S) (SFresh.refl _ S) q2 hG, q1, ?_, by rw [put_size]; exact hi.tsz, by rw [put_defers]; exact hi.dfr⟩
      refine (hi.ci.mono (SExt.refl S) q2.le).put (fun d hd' => by rw [hi.tsz.1]; exact dstLt_spec hd d hd') ?_
      simp only [V]
      refine ⟨_, _, _, by simp [hml]; rfl, Nat.le_refl _, rfl, fun _ => ?_⟩
      simp only [Nat.zero_add, Nat.mul_one]
      exact ⟨trivial, hg3, by omega⟩
  have hargs : (execOp a.eval o).run P w = ((Builtin.append_ #[t, t] o.type #[.slice ad n cap, .slice adx m capx]).run P w).andThen fun v w' => .ok (.value v) w' := by
    simp [execOp, ho, resolve, invoke, builtin, h3, h6]
  have hu : ∀ w, (underlying t).run P w = .ok (.slice e) w := run_underlying ht
  by_cases hm0 : m = 0
  · -- nothing is appended
    subst hm0
    have hys : ys = [] := List.eq_nil_of_length_eq_zero hym
    subst hys
    have hle : n ≤ cap := by
      cases hb' : mm.blk with
      | none => rw [hb'] at h5; simp only at h5; omega
      | some b => rw [hb'] at h5; exact h5.2.1
    have hfc : (Builtin.firstCells 1 0 (.slice adx 0 capx)).run P w = .ok #[] w := by
      cases adx <;> simp [Builtin.firstCells, loadCells, loadCellsFrom]
    have hrun : (execOp a.eval o).run P w = .ok (.value (.slice ad n cap)) w := by
      rw [hargs]
      cases ad <;> simp [Builtin.append_, hu, sizeOf, typeInfo, hI, hsz, Builtin.lenOf, hle, hfc, storeCells]
    obtain ⟨q1, q2⟩ := hw.bump hp h1
    unfold Oper.wp
    rw [hrun]
    rw [List.append_nil] at hK
    refine hnx S _ _ w _ _ (SExt.refl S) hK ⟨⟨hi.fr.ext, ?_, ?_, hi.fr.keep, hi.fr.size, hi.fr.os, hi.fr.tape, hi.fr.output, hi.fr.sf⟩, q1, ?_, by rw [put_size]; exact hi.tsz, by rw [put_defers]; exact hi.dfr⟩
    · exact hi.fr.le.trans (B' := w0.heap.size) (MuLe.set h1 (by simp only; omega) fun b hb => .inl hb) (Nat.le_refl _)
    · intro i m1 b hm1 hb1
      by_cases e : p = i
      · subst e; simp [hml] at hm1; subst hm1; exact hi.fr.new p mm b h1 hb1
      · rw [List.getElem?_set_ne e] at hm1; exact hi.fr.new i m1 b hm1 hb1
    · refine (hi.ci.mono (SExt.refl S) q2).put (fun d hd' => by rw [hi.tsz.1]; exact dstLt_spec hd d hd') ?_
      simp only [V]
      exact ⟨{ mm with ver := ver + 1 }, ad, cap, by simp [hml], Nat.le_refl _, rfl, fun _ => h5⟩
  · rcases h7 with h7 | ⟨bx, offx, us, rfl, h8, h9⟩
    · exact absurd h7 hm0
    have hul : us.length = m := by rw [h8.length, hym]
    have h9' : ∀ j u, us[j]? = some u → w.cell? (Addr.add ⟨bx, offx, none⟩ j) = some u := fun j u hj => by rw [Addr.add_mk]; exact h9 j u hj
    have hones := VL.ones ys us h8 hone
    cases hb' : mm.blk with
    | none =>
      rw [hb'] at h5
      simp only at h5
      obtain ⟨hc0, _, hn0⟩ := h5
      have hl0 : l = [] := List.eq_nil_of_length_eq_zero (by omega)
      subst hl0
      cases ad with
      | some b0 =>
        obtain ⟨v', w', r1, r2, r3⟩ := run_append_arg_grows (P := P) w t o.type e I z 1 bytes ht hI hz hsz hby hzs (by omega) b0 n cap [] (by simp; omega) (by simp) ⟨bx, offx, none⟩ m capx us (by omega) h9' (by omega) (by omega) hb
        exact fin v' w' [] us (by rw [hargs, r1]; rfl) (by simp only [VL]) h8 (by omega) (by simpa using r2) r3
      | none =>
        subst hc0; subst hn0
        obtain ⟨v', w', r1, r2, r3, _⟩ := run_append_own (P := P) w w.heap.size t o.type e I z 1 bytes ht hI hz hsz hby hzs (by omega) (.slice none 0 0) 0 [] (World.ownsRow_nil w _ e 1) ⟨bx, offx, none⟩ m capx us (by omega) h9' hones (by omega) hb (Nat.le_refl _)
        exact fin v' w' [] us (by rw [hargs, r1]; rfl) (by simp only [VL]) h8 (by omega) (by simpa using r2) r3
    | some b =>
      rw [hb'] at h5
      simp only at h5
      obtain ⟨rfl, h10, h11⟩ := h5
      obtain ⟨cs, T, e1, e2, e3, e4⟩ := own_cells hw hp h1 hb'
      have hcl : l.length ≤ cs.toList.length := e3.length
      simp only [Array.length_toList] at hcl
      by_cases hroom : n + m ≤ cap
      · -- in place
        have hspan : n + m ≤ cs.size := by
          have : cap ≤ cap * (mm.es + 1) := Nat.le_mul_of_pos_right _ (by omega)
          omega
        have hst := run_storeCells (P := P) (w := w) (b := b) (T := T) us n 0 cs e1 (by omega) hones
        have hne : us ≠ [] := fun e => by subst e; simp at hul; omega
        rw [if_neg hne] at hst
        simp only [Nat.add_zero] at hst
        have hfc : (Builtin.firstCells 1 m (.slice (some ⟨bx, offx, none⟩) m capx)).run P w = .ok us.toArray w := by
          have := run_firstCells_some (P := P) w 1 m ⟨bx, offx, none⟩ m capx us (by omega) h9'
          simpa using this
        have hrun : (execOp a.eval o).run P w = .ok (.value (.slice (some ⟨b, 0, none⟩) (n + m) cap)) (recell w b (AM.overlay cs.toList n us).toArray T) := by
          rw [hargs]
          simp [Builtin.append_, hu, sizeOf, typeInfo, hI, hsz, Builtin.lenOf, hroom, hfc, Addr.add_mk, hst]
        have hsz' : (AM.overlay cs.toList n us).toArray.size = cs.size := by
          simp only [List.size_toArray, AM.overlay, List.length_append, List.length_take, List.length_drop, Array.length_toList]
          omega
        have hvp : VP S μ (l ++ ys) (AM.overlay cs.toList n us) := by
          unfold AM.overlay
          rw [List.append_assoc]
          refine VP.app ?_ ?_
          · rw [← hl]; exact e3.vl_take
          · have := VP.app h8 (l' := []) (vs' := cs.toList.drop (n + us.length)) (by simp only [VP])
            simpa using this
        have hw1 := hw.put hp h1 hb' e1 hsz' (by simpa using hvp)
        obtain ⟨q1, q2⟩ := hw1.bump (p := p) (ver := ver) (l := l ++ ys) (m := mm) (by simp [hpl]) h1
        rw [List.set_set] at q1
        unfold Oper.wp
        rw [hrun]
        refine hnx S _ _ _ _ _ (SExt.refl S) hK ⟨⟨hi.fr.ext, ?_, ?_, ?_, by simpa [recell] using hi.fr.size, hi.fr.os, hi.fr.tape, hi.fr.output, hi.fr.sf⟩, q1, ?_, by rw [put_size]; exact hi.tsz, by rw [put_defers]; exact hi.dfr⟩
        · exact hi.fr.le.trans (B' := w0.heap.size) (MuLe.set h1 (by simp only; omega) fun b hb => .inl hb) (Nat.le_refl _)
        · intro i m1 b1 hm1 hb1
          by_cases e : p = i
          · subst e; simp [hml] at hm1; subst hm1; exact hi.fr.new p mm b1 h1 hb1
          · rw [List.getElem?_set_ne e] at hm1; exact hi.fr.new i m1 b1 hm1 hb1
        · intro b1 hb1 hno
          have hne : b ≠ b1 := by
            intro e
            subst e
            rcases hi.fr.new p mm b h1 hb' with ⟨m0, q1, q2⟩ | q
            · exact hno p m0 q1 q2
            · omega
          rw [recell_ne hne]
          exact hi.fr.keep b1 hb1 hno
        · refine (hi.ci.mono (SExt.refl S) q2).put (fun d hd' => by rw [hi.tsz.1]; exact dstLt_spec hd d hd') ?_
          simp only [V]
          refine ⟨_, _, _, by simp [hml]; rfl, Nat.le_refl _, rfl, fun _ => ?_⟩
          simp only [hb']
          exact ⟨trivial, hroom, h11⟩
      · obtain ⟨v', w', r1, r2, r3⟩ := run_append_arg_grows (P := P) w t o.type e I z 1 bytes ht hI hz hsz hby hzs (by omega) ⟨b, 0, none⟩ n cap (cs.toList.take l.length) (by simp; omega) (fun j u hj => by
            have hlt := lt_of_getElem? hj
            simp only [List.length_take] at hlt
            rw [List.getElem?_take, if_pos (by omega)] at hj
            rw [Addr.add_mk]
            simp only [World.cell?, e1, Nat.zero_add]
            simpa using hj) ⟨bx, offx, none⟩ m capx us (by omega) h9' (by omega) (by omega) hb
        exact fin v' w' _ us (by rw [hargs, r1]; rfl) e3.vl_take h8 (by omega) r2 r3
end
end Go.AM

/- The abstract layer: results, nil slices as own ones, element stores, forms of calls. -/
namespace Go.AM
section
variable {P : Program} {N : Nat} {o : Oper} {τ : List (Nat × AV)} {Γ : List Ob} {Q : PQ}

/-! what a body hands back -/
/-- The objects chosen at the end, one by one: cells without names, or written out. -/
def SelL (Γ : List Ob) (sel0 : List (Nat × Nat)) : List (Nat × Nat) → List Ob → Prop
  | [], [] => True
  | p :: sel, ⟨v, c⟩ :: Γ' => (match c with
      | none => ∃ c', Γ[p.1]? = some ⟨v + p.2, c'⟩
      | some l => Γ[p.1]? = some ⟨v + p.2, some (AV.rens (sigma sel0) l)⟩ ∧ AV.lts sel0.length l = true) ∧ SelL Γ sel0 sel Γ'
  | _, _ => False
theorem SelL.length {sel0 : List (Nat × Nat)} : ∀ {sel : List (Nat × Nat)} {Γ' : List Ob}, SelL Γ sel0 sel Γ' → Γ'.length = sel.length
  | [], [], _ => rfl
  | p :: sel, ⟨v, c⟩ :: Γ', h => by simp [SelL.length h.2]
  | [], _ :: _, h => h.elim
  | _ :: _, [], h => h.elim
theorem SelL.at {sel0 : List (Nat × Nat)} : ∀ {sel : List (Nat × Nat)} {Γ' : List Ob}, SelL Γ sel0 sel Γ' → ∀ (i : Nat) (g' : Ob) (p : Nat × Nat), Γ'[i]? = some g' → sel[i]? = some p → ∃ g, Γ[p.1]? = some g ∧ g.ver = g'.ver + p.2 ∧ ∀ l, g'.cells = some l → AV.lts sel0.length l = true ∧ g.cells = some (AV.rens (sigma sel0) l)
  | [], [], _, i, g', p, hg, _ => by simp at hg
  | q :: sel, ⟨v, c⟩ :: Γ', h, 0, g', p, hg, hp => by
    simp at hg hp
    subst hg; subst hp
    obtain ⟨h, _⟩ := h
    cases c with
    | none => obtain ⟨c', h⟩ := h; exact ⟨_, h, rfl, fun l e => by cases e⟩
    | some l => exact ⟨_, h.1, rfl, fun l' e => by cases e; exact ⟨h.2, rfl⟩⟩
  | q :: sel, ⟨v, c⟩ :: Γ', h, i + 1, g', p, hg, hp => by
    simp at hg hp
    exact SelL.at h.2 i g' p hg hp
  | [], _ :: _, h, _, _, _, _, _ => h.elim
  | _ :: _, [], h, _, _, _, _, _ => h.elim
theorem bodyQ.mk {fn : Func} {e : Exit} {k : Nat} {r r' : AV} {Γ' : List Ob} (sel : List (Nat × Nat)) (he : e = .normal ∨ e = .ret) (hk : (List.range k).all (fun i => sel[i]? == some (i, 0)) = true) (hn : (sel.map (·.1)).Nodup) (hr : r.ren (sigma sel) = r') (hrl : r.lt sel.length = true) (h : Res P fn τ Γ r') (hs : SelL Γ sel sel Γ') : bodyQ P fn k r Γ' e τ Γ := by
  have hall : ∀ i, i < k → sel[i]? = some (i, 0) := fun i hi => by
    have := List.all_eq_true.1 hk i (List.mem_range.2 hi)
    simpa using this
  refine ⟨he, sel, ?_, hall, by rw [hr]; exact h, hrl, hs.length, hn, fun i g' hg => ?_⟩
  · cases k with
    | zero => exact Nat.zero_le _
    | succ k => have := lt_of_getElem? (hall k (by omega)); omega
  · have hi : i < sel.length := by rw [← hs.length]; exact lt_of_getElem? hg
    have hp : sel[i]? = some (sigma sel i) := by simp [sigma, List.getD, List.getElem?_eq_getElem hi]
    exact hs.at i g' _ hg hp
theorem rens_map {α : Type} {f : α → AV} (hf : ∀ x, (f x).lt 0 = true) {σ : Nat → Nat × Nat} {l : List α} : l.map f = AV.rens σ (l.map f) := (AV.rens_of_lt0 σ _ (lts0_map hf l)).symm
theorem AV.lt_mono0 {k : Nat} : ∀ a : AV, a.lt 0 = true → a.lt k = true
  | a, h => by
    have : ∀ (l : List AV), (∀ a ∈ l, a.lt 0 = true → a.lt k = true) → AV.lts 0 l = true → AV.lts k l = true := by
      intro l
      induction l with
      | nil => intro _ _; rfl
      | cons a l ih =>
        intro hh ha
        simp only [AV.lts, Bool.and_eq_true] at ha ⊢
        exact ⟨hh a (by simp) ha.1, ih (fun b hb => hh b (by simp [hb])) ha.2⟩
    cases a with
    | sl n l => simp only [AV.lt] at h ⊢; exact this l (fun b _ => AV.lt_mono0 b) h
    | agg l => simp only [AV.lt] at h ⊢; exact this l (fun b _ => AV.lt_mono0 b) h
    | tup l => simp only [AV.lt] at h ⊢; exact this l (fun b _ => AV.lt_mono0 b) h
    | ptr l => simp only [AV.lt] at h ⊢; exact this l (fun b _ => AV.lt_mono0 b) h
    | fn g p q => simp only [AV.lt, Bool.and_eq_true] at h ⊢; exact ⟨this p (fun b _ => AV.lt_mono0 b) h.1, this q (fun b _ => AV.lt_mono0 b) h.2⟩
    | oref o _ _ _ => simp [AV.lt] at h
    | optr o _ _ => simp [AV.lt] at h
    | x _ => rfl
    | f _ _ => rfl
    | cx _ _ _ => rfl
    | bt _ _ _ => rfl
    | any => rfl
    | nni => rfl
theorem lts_map {α : Type} {f : α → AV} (hf : ∀ x, (f x).lt 0 = true) (k : Nat) (l : List α) : AV.lts k (l.map f) = true := by
  induction l with
  | nil => rfl
  | cons a l ih => simp [AV.lts, AV.lt_mono0 _ (hf a), ih]
/-- One own array handed back. -/
theorem SelL.arr {α : Type} {f : α → AV} (hf : ∀ x, (f x).lt 0 = true) {sel0 sel : List (Nat × Nat)} {p s v : Nat} {l : List α} {Γ' : List Ob} (hp : Γ[p]? = some ⟨v + s, some (l.map f)⟩) (h : SelL Γ sel0 sel Γ') : SelL Γ sel0 ((p, s) :: sel) (⟨v, some (l.map f)⟩ :: Γ') :=
  ⟨⟨hp.trans (by rw [← rens_map hf]), lts_map hf _ l⟩, h⟩
theorem SelL.cells {sel0 sel : List (Nat × Nat)} {p s v : Nat} {l l' : List AV} {Γ' : List Ob} (hp : Γ[p]? = some ⟨v + s, some l'⟩) (hr : AV.rens (sigma sel0) l = l') (hl : AV.lts sel0.length l = true) (h : SelL Γ sel0 sel Γ') : SelL Γ sel0 ((p, s) :: sel) (⟨v, some l⟩ :: Γ') := by
  subst hr; exact ⟨⟨hp, hl⟩, h⟩

/-! a nil slice is an own empty one -/
theorem nil_own {S : Snap} {μ : List Mu} {w : World} (hw : WI S μ Γ w) {p v : Nat} {c : Option (List AV)} (hp : Γ[p]? = some ⟨v, c⟩) :
    WI S (μ.set p ⟨v + 1, none, 0, 0⟩) (Γ.set p ⟨v + 1, some []⟩) w ∧ MuStep w.heap.size [(p, [])] μ (μ.set p ⟨v + 1, none, 0, 0⟩) ∧ V S (μ.set p ⟨v + 1, none, 0, 0⟩) (.oref p (v + 1) 0 0) (.slice none 0 0) := by
  obtain ⟨h1, h2⟩ := hw.fill_new (Grow.refl w) (p := p) (es := 0) (l := []) (blk := none) (cs := #[]) (T := 0) hp (fun b hb => by cases hb) (fun _ => rfl) (by simp only [VP])
  refine ⟨h1, h2, ?_⟩
  have hml : p < μ.length := by rw [hw.len]; exact lt_of_getElem? hp
  simp only [V]
  exact ⟨⟨v + 1, none, 0, 0⟩, none, 0, by simp [hml], Nat.le_refl _, rfl, fun _ => by simp⟩
theorem RunC.nil_slot {c : Code} (t p : Nat) {v : Nat} (ht : look τ t = .nilsl) (hp : Γ[p]? = some ⟨v, none⟩) {Γ' : List Ob} (hΓ : Γ.set p ⟨v + 1, some []⟩ = Γ') (h : RunC P N c ((t, .oref p (v + 1) 0 0) :: τ) Γ' Q) : RunC P N c τ Γ Q := by
  subst hΓ
  intro S0 μ0 w0 S μ a w hi
  obtain ⟨h1, h2, h3⟩ := nil_own hi.wi hp
  refine h S0 μ0 w0 S _ a w ⟨hi.fr.grow (SExt.refl S) (SFresh.refl _ S) h2 (Grow.refl w), h1, ?_, hi.tsz, hi.dfr⟩
  intro u
  simp only [look]
  split
  · rename_i e
    subst e
    have := hi.ci t
    rw [ht] at this
    simp only [V] at this
    rw [this]; exact h3
  · exact V.mono (SExt.refl S) h2.le _ _ (hi.ci u)
theorem VL.nil_set {S : Snap} {μ : List Mu} {b : AV} (hb : V S μ b (.slice none 0 0)) : ∀ {l : List AV} {vs : List Value} {i : Nat}, VL S μ l vs → l[i]? = some .nilsl → VL S μ (l.set i b) vs
  | [], _, _, _, e => by simp at e
  | a :: l, v :: vs, 0, h, e => by
    simp at e; subst e
    simp only [VL, List.set_cons_zero] at h ⊢
    refine ⟨?_, h.2⟩
    have := h.1
    simp only [V] at this
    rw [this]; exact hb
  | a :: l, v :: vs, i + 1, h, e => by
    simp at e
    simp only [VL, List.set_cons_succ] at h ⊢
    exact ⟨h.1, VL.nil_set hb h.2 e⟩
  | _ :: _, [], _, h, _ => by simp only [VL] at h
theorem VP.nil_set {S : Snap} {μ : List Mu} {b : AV} (hb : V S μ b (.slice none 0 0)) : ∀ {l : List AV} {vs : List Value} {i : Nat}, VP S μ l vs → l[i]? = some .nilsl → VP S μ (l.set i b) vs
  | [], _, _, _, e => by simp at e
  | a :: l, v :: vs, 0, h, e => by
    simp at e; subst e
    simp only [VP, List.set_cons_zero] at h ⊢
    refine ⟨?_, h.2⟩
    have := h.1
    simp only [V] at this
    rw [this]; exact hb
  | a :: l, v :: vs, i + 1, h, e => by
    simp at e
    simp only [VP, List.set_cons_succ] at h ⊢
    exact ⟨h.1, VP.nil_set hb h.2 e⟩
  | _ :: _, [], _, h, _ => by simp only [VP] at h
theorem RunC.nil_agg {c : Code} (t i p : Nat) {v : Nat} {l : List AV} (ht : look τ t = .agg l) (hi' : l[i]? = some .nilsl) (hp : Γ[p]? = some ⟨v, none⟩) {Γ' : List Ob} (hΓ : Γ.set p ⟨v + 1, some []⟩ = Γ') {l' : List AV} (hl : l.set i (.oref p (v + 1) 0 0) = l') (h : RunC P N c ((t, .agg l') :: τ) Γ' Q) : RunC P N c τ Γ Q := by
  subst hΓ; subst hl
  intro S0 μ0 w0 S μ a w hi
  obtain ⟨h1, h2, h3⟩ := nil_own hi.wi hp
  refine h S0 μ0 w0 S _ a w ⟨hi.fr.grow (SExt.refl S) (SFresh.refl _ S) h2 (Grow.refl w), h1, ?_, hi.tsz, hi.dfr⟩
  intro u
  simp only [look]
  split
  · rename_i e
    subst e
    have := V.mono (SExt.refl S) h2.le _ _ (hi.ci t)
    rw [ht] at this
    simp only [V] at this ⊢
    obtain ⟨cs, k1, k2⟩ := this
    exact ⟨cs, k1, VL.nil_set h3 k2 hi'⟩
  · exact V.mono (SExt.refl S) h2.le _ _ (hi.ci u)
theorem RunC.nil_cell {c : Code} (q i p : Nat) {v vq : Nat} {l : List AV} (hq : Γ[q]? = some ⟨vq, some l⟩) (hi' : l[i]? = some .nilsl) (hp : Γ[p]? = some ⟨v, none⟩) {l' : List AV} (hl : l.set i (.oref p (v + 1) 0 0) = l') {Γ' : List Ob} (hΓ : (Γ.set p ⟨v + 1, some []⟩).set q ⟨vq, some l'⟩ = Γ') (h : RunC P N c τ Γ' Q) : RunC P N c τ Γ Q := by
  subst hΓ; subst hl
  intro S0 μ0 w0 S μ a w hi
  obtain ⟨h1, h2, h3⟩ := nil_own hi.wi hp
  have hne : p ≠ q := fun e => by subst e; rw [hp] at hq; simp at hq
  have hq' : (Γ.set p ⟨v + 1, some []⟩)[q]? = some ⟨vq, some l⟩ := by rw [List.getElem?_set_ne hne]; exact hq
  have hql := lt_of_getElem? hq'
  refine h S0 μ0 w0 S _ a w ⟨hi.fr.grow (SExt.refl S) (SFresh.refl _ S) h2 (Grow.refl w), ⟨h1.snap, by simpa using h1.len, ?_, ?_, ?_⟩, fun u => V.mono (SExt.refl S) h2.le _ _ (hi.ci u), hi.tsz, hi.dfr⟩
  · intro k g m hg hm
    by_cases e : q = k
    · subst e; rw [List.getElem?_set_self hql] at hg; simp at hg; subst hg; have := h1.ver q ⟨vq, some l⟩ m hq' hm; exact this
    · rw [List.getElem?_set_ne e] at hg; exact h1.ver k g m hg hm
  · intro k vk lk m hg hm
    by_cases e : q = k
    · subst e
      rw [List.getElem?_set_self hql] at hg; simp at hg
      obtain ⟨rfl, rfl⟩ := hg
      have := h1.own q vq l m hq' hm
      unfold OwnAt at this ⊢
      split at this
      · subst this; simp at hi'
      · obtain ⟨k1, cs, T, k2, k3, k4⟩ := this
        exact ⟨k1, cs, T, k2, k3, VP.nil_set h3 k4 hi'⟩
    · rw [List.getElem?_set_ne e] at hg; exact h1.own k vk lk m hg hm
  · have key : ∀ {k : Nat} {g : Ob}, ((Γ.set p ⟨v + 1, some []⟩).set q ⟨vq, some (l.set i (.oref p (v + 1) 0 0))⟩)[k]? = some g → g.cells.isSome = true → ∃ g0, (Γ.set p ⟨v + 1, some []⟩)[k]? = some g0 ∧ g0.cells.isSome = true := by
      intro k g hg hs
      by_cases e : q = k
      · subst e; exact ⟨_, hq', rfl⟩
      · rw [List.getElem?_set_ne e] at hg; exact ⟨g, hg, hs⟩
    intro k k' g g' m m' b hg hs hg' hs' hm hm' hb hb'
    obtain ⟨g0, a1, a2⟩ := key hg hs
    obtain ⟨g0', a1', a2'⟩ := key hg' hs'
    exact h1.sep k k' g0 g0' m m' b a1 a2 a1' a2' hm hm' hb hb'

/-! elements of own slices -/
theorem at_in {α : Type} {l : List α} {i : Int} {a : α} {n : Nat} (h : at? l i = some a) (hn : l.length = n) : 0 ≤ i ∧ i < n := by
  obtain ⟨h0, h1, _⟩ := at?_spec h; omega
theorem set_in {α : Type} {l l' : List α} {i : Int} {a : α} {n : Nat} (h : setAt? l i a = some l') (hn : l.length = n) : 0 ≤ i ∧ i < n := by
  obtain ⟨h0, h1, _⟩ := setAt?_spec h; omega
theorem TOp.ixo {t e : TypeId} {x ix : Operand} {p ver n : Nat} {k : IntKind} {i : Int} {l : List AV} (ht : ∀ w, (underlying t).run P w = .ok (.slice e) w) (he : ∀ w, (sizeOf e).run P w = .ok 1 w)
    (ho : o.op = .indexAddr t x ix) (hx : ev τ x = .oref p ver 0 n) (hi : ev τ ix = .x (.int k i)) (hb : 0 ≤ i ∧ i < n) (hΓ : Γ[p]? = some ⟨ver, some l⟩) : TOp P o τ Γ (.optr p ver i.toNat) [] := by
  have := LOp.indexAddr_oref ht he ho hx hi hb.1 hb.2 Γ hΓ
  rwa [Nat.zero_add] at this
theorem at_cell {α : Type} {f : α → AV} {l : List α} {i : Int} {a : α} (h : at? l i = some a) : (l.map f)[i.toNat]? = some (f a) := by
  obtain ⟨_, _, h⟩ := at?_spec h
  simp [h]
/-- A store of one element. -/
theorem ROps.st {α : Type} {f : α → AV} {l l' : List α} {i : Int} {y' : α} {all : Array Oper} {rest : List Oper} {t : TypeId} {x y : Operand} {p ver : Nat} {Γ' : List Ob} (hw : wantT all τ o = some true) (hn : ∀ w, (sizeOf t).run P w = .ok 1 w) (ho : o.op = .store t x y) (hd : o.dst = none)
    (hx : ev τ x = .optr p ver i.toNat) (hy : ALe (ev τ y) (f y')) (hc : (f y').cells? = some [f y']) (hone : (f y').one = true) (hp : Γ[p]? = some ⟨ver, some (l.map f)⟩) (hs : setAt? l i y' = some l') (hΓ : Γ.set p ⟨ver, some (l'.map f)⟩ = Γ') (h : ROps P N all rest τ Γ' Q) : ROps P N all (o :: rest) τ Γ Q := by
  obtain ⟨h0, h1, rfl⟩ := setAt?_spec hs
  refine ROps.op hw (ROp.store_le hn ho hd hx hy hc (by simp [hone]) rfl hp (by simp; omega) ?_)
  rw [overlay_set (by simpa using h1), ← List.map_set, hΓ]; exact h
end
end Go.AM

/- The abstract layer: the last forms for generated proofs. -/
namespace Go.AM
abbrev AV.ik (k : IntKind) (n : Int) : AV := .x (.int k n)
section
variable {P : Program} {N : Nat} {o : Oper} {τ : List (Nat × AV)} {Γ : List Ob} {Q : PQ}

def FillsL (Γ : List Ob) : List (Nat × List AV) → Prop
  | [] => True
  | f :: fs => (∃ ver, Γ[f.1]? = some ⟨ver, none⟩) ∧ FillsL Γ fs
theorem fills_of {fs : List (Nat × List AV)} (hn : (fs.map (·.1)).Nodup) (h : FillsL Γ fs) : fillsOk Γ fs := by
  refine ⟨hn, ?_⟩
  have : ∀ fs : List (Nat × List AV), FillsL Γ fs → ∀ f ∈ fs, ∃ ver, Γ[f.1]? = some ⟨ver, none⟩ := by
    intro fs
    induction fs with
    | nil => intro _ f hf; cases hf
    | cons g fs ih =>
      intro h f hf
      rcases List.mem_cons.1 hf with e | hf
      · subst e; exact h.1
      · exact ih h.2 f hf
  exact this fs h

/-- A load through a pointer to settled cells whose length is known. -/
theorem LOp.loadAgg' {t : TypeId} {x : Operand} {n : Nat} {l r : List AV} (hg : ∀ w, (isAgg t).run P w = .ok true w) (hn : ∀ w, (sizeOf t).run P w = .ok n w) (ho : o.op = .load t x) (hx : ev τ x = .ptr l) (hr : l.take n = r) (hl : r.length = n) : LOp P o τ (.agg r) := LOp.loadAgg hg hn ho hx hr hl
/-- A field of a struct value that is a struct itself, or not. -/
theorem LOp.len_own {α : Type} {f : α → AV} {l : List α} {n : Nat} {t e : TypeId} {x : Operand} {p ver : Nat} (ht : ∀ w, (underlying t).run P w = .ok (.slice e) w) (ho : o.op = .call { callee := .builtin .len, args := #[x], argTypes := #[t] }) (hx : ev τ x = .oref p ver 0 n) (hn : (l.map f).length = n) : LOp P o τ (.i64 l.length) := by
  have := LOp.len_oref ht ho hx
  rw [← hn, List.length_map] at this
  exact this
/-- Bits of a number that is none of the NaNs. -/
theorem LOp.fbx {f : FuncId} {k : FloatKind} {ik : IntKind} {x : Operand} {tys : Array TypeId} {c : F} {n : Nat} (hc : ∀ b w, (callFunc f #[.float k b]).run P w = .ok (.value (.int ik b)) w) (ho : o.op = .call { callee := .value (.func f), args := #[x], argTypes := tys }) (hx : OpF τ x k c) (hn : c = some n) : LOp P o τ (.x (.int ik n)) := by
  subst hn; exact LOp.bits_x hc ho hx
end
end Go.AM
namespace Go.AM
section
variable {P : Program} {N : Nat} {o : Oper} {τ : List (Nat × AV)} {Γ : List Ob} {Q : PQ}
/-- A slice as an element. -/
abbrev AV.sll {α : Type} (f : α → AV) (l : List α) : AV := .sl l.length (l.map f)
abbrev AV.cp (k : FloatKind) (p : F × F) : AV := .cx k p.1 p.2
theorem ALe.eq {a b : AV} (h : a = b) : ALe a b := h ▸ ALe.refl a
/-- Claims may say less. -/
def WeakLe (τ : List (Nat × AV)) : List (Nat × AV) → Prop
  | [] => True
  | (d, v) :: r => ALe (look τ d) v ∧ WeakLe τ r
/-- Own objects may be forgotten. -/
def DeadLe : List Ob → List Ob → Prop
  | [], [] => True
  | g :: l, g' :: l' => (g'.ver = g.ver ∧ (g'.cells = none ∨ g'.cells = g.cells)) ∧ DeadLe l l'
  | _, _ => False
theorem DeadLe.length : ∀ {l l' : List Ob}, DeadLe l l' → l'.length = l.length
  | [], [], _ => rfl
  | _ :: l, _ :: l', h => by simp [DeadLe.length h.2]
  | [], _ :: _, h => h.elim
  | _ :: _, [], h => h.elim
theorem DeadLe.at : ∀ {l l' : List Ob} {i : Nat} {g' : Ob}, DeadLe l l' → l'[i]? = some g' → ∃ g, l[i]? = some g ∧ g'.ver = g.ver ∧ (g'.cells = none ∨ g'.cells = g.cells)
  | [], [], _, _, _, h => by simp at h
  | g :: l, g1 :: l', 0, g', h, e => by simp at e; subst e; exact ⟨g, rfl, h.1⟩
  | _ :: l, _ :: l', i + 1, g', h, e => by simp at e; simpa using DeadLe.at h.2 e
  | [], _ :: _, _, _, h, _ => h.elim
  | _ :: _, [], _, _, h, _ => h.elim
theorem WI.dead {S : Snap} {μ : List Mu} {Γ' : List Ob} {w : World} (h : WI S μ Γ w) (hd : DeadLe Γ Γ') : WI S μ Γ' w := by
  refine ⟨h.snap, by rw [h.len, hd.length], ?_, ?_, ?_⟩
  · intro i g m hg hm
    obtain ⟨g0, h1, h2, _⟩ := hd.at hg
    rw [h2]; exact h.ver i g0 m h1 hm
  · intro i v l m hg hm
    obtain ⟨⟨v0, c0⟩, h1, h2, h3⟩ := hd.at hg
    rcases h3 with h3 | h3
    · cases h3
    · simp only at h2 h3; subst h2; subst h3; exact h.own i _ l m h1 hm
  · intro i i' g g' m m' b hg hs hg' hs' hm hm' hb hb'
    obtain ⟨g0, h1, h2, h3⟩ := hd.at hg
    obtain ⟨g0', h1', h2', h3'⟩ := hd.at hg'
    rcases h3 with h3 | h3
    · rw [h3] at hs; cases hs
    · rcases h3' with h3' | h3'
      · rw [h3'] at hs'; cases hs'
      · rw [h3] at hs; rw [h3'] at hs'; exact h.sep i i' g0 g0' m m' b h1 hs h1' hs' hm hm' hb hb'
theorem WeakLe.look {S : Snap} {μ : List Mu} {τ' : List (Nat × AV)} {t : Nat} {v : Value} (h : V S μ (look τ t) v) (hw : WeakLe τ τ') : V S μ (AM.look τ' t) v := by
  induction τ' with
  | nil => simp only [AM.look, V]
  | cons p τ' ih =>
    obtain ⟨d, x⟩ := p
    simp only [AM.look]
    split
    · rename_i e; subst e; exact hw.1 _ _ _ h
    · exact ih hw.2
theorem RunC.wl {c : Code} {τ' : List (Nat × AV)} {Γ' : List Ob} (hw : WeakLe τ τ') (hd : DeadLe Γ Γ') (h : RunC P N c τ' Γ' Q) : RunC P N c τ Γ Q :=
  fun S0 μ0 w0 S μ a w hi => h S0 μ0 w0 S μ a w ⟨hi.fr, hi.wi.dead hd, fun t => WeakLe.look (hi.ci t) hw, hi.tsz, hi.dfr⟩
theorem RunC.cutN {c : Code} (Mid : List (Nat × AV) → List Ob → Prop) (h1 : RunC P N c τ Γ (thenQ Mid Q)) (h2 : ∀ τ Γ, Mid τ Γ → Q .normal τ Γ) : RunC P N c τ Γ Q := by
  refine h1.mono fun e τ Γ h => ?_
  cases e <;> first | exact h2 τ Γ h | exact h
theorem Bor.ptr {l l' : List AV} (h : Bors Γ l l') : Bor Γ (.ptr l) (.ptr l') := by
  intro S μ Γ2 w Sb v hΓ hw hL hv
  simp only [V] at hv ⊢
  obtain ⟨b, off, cs, h1, h2, h3⟩ := hv
  exact ⟨b, off, cs, h1, hL.ext _ _ h2, h.p S μ Γ2 w Sb _ hΓ hw hL h3⟩
def NsL (Γ : List Ob) : List Nat → Prop
  | [] => True
  | p :: l => (∃ ver, Γ[p]? = some ⟨ver, none⟩) ∧ NsL Γ l
theorem ns_of : ∀ {ns : List Nat}, NsL Γ ns → ∀ p ∈ ns, ∃ ver, Γ[p]? = some ⟨ver, none⟩
  | [], _, p, hp => by cases hp
  | q :: ns, h, p, hp => by
    rcases List.mem_cons.1 hp with e | hp
    · subst e; exact h.1
    · exact ns_of h.2 p hp
theorem Res.eq {fn : Func} {r r' : AV} (h : Res P fn τ Γ r) (e : r = r') : Res P fn τ Γ r' := e ▸ h
theorem SelOk.of {sel : List (Nat × Nat)} {Γ' : List Ob} (hn : (sel.map (·.1)).Nodup) (h : SelL Γ sel sel Γ') : SelOk sel Γ Γ' :=
  ⟨h.length, hn, fun i g' hg => by
    have hi : i < sel.length := by rw [← h.length]; exact lt_of_getElem? hg
    have hp : sel[i]? = some (sigma sel i) := by simp [sigma, List.getD, List.getElem?_eq_getElem hi]
    exact h.at i g' _ hg hp⟩
theorem SelL.arr0 {α : Type} {f : α → AV} (hf : ∀ x, (f x).lt 0 = true) {sel0 sel : List (Nat × Nat)} {p s : Nat} {l : List α} {Γ' : List Ob} (hp : Γ[p]? = some ⟨s, some (l.map f)⟩) (h : SelL Γ sel0 sel Γ') : SelL Γ sel0 ((p, s) :: sel) (⟨0, some (l.map f)⟩ :: Γ') :=
  SelL.arr hf (by rw [Nat.zero_add]; exact hp) h
end
end Go.AM

/- The abstract layer: made slices, appends, whole-number bits, complex parts, calls with own objects handed over, in the forms that generated proofs use. -/
namespace Go.AM
section
variable {P : Program} {N : Nat} {o : Oper} {τ : List (Nat × AV)} {Γ : List Ob} {Q : PQ}

theorem TOp.fs_eq {r : AV} {fs fs' : List (Nat × List AV)} (h : TOp P o τ Γ r fs) (e : fs = fs') : TOp P o τ Γ r fs' := e ▸ h
def mkok (by_ : Nat) (n : Int) : Bool := decide (0 ≤ n) && decide (n < 9223372036854775808) && decide ((by_ : Int) * n ≤ 281474976710656)
theorem mk_lo {b : Nat} {n : Int} (h : mkok b n = true) : 0 ≤ n := by simp [mkok] at h; exact h.1.1
theorem mk_hi {b : Nat} {n : Int} (h : mkok b n = true) : n < 9223372036854775808 := by simp [mkok] at h; exact h.1.2
theorem mk_by {b : Nat} {n : Int} (h : mkok b n = true) : (b : Int) * n ≤ 281474976710656 := by simp [mkok] at h; exact h.2
theorem TOp.mkS {α : Type} {f : α → AV} {zv : α} {t e : TypeId} {x y : Operand} {n : Int} {z : Value} {I : TypeInfo} {by_ : Nat} (p : Nat) {g : Ob} (hp : Γ[p]? = some g) (ht : ∀ w, (underlying t).run P w = .ok (.slice e) w) (hi : ∀ w, (typeInfo e).run P w = .ok I w) (hby : I.bytes = by_) (hsz : ∀ w, (sizeOf e).run P w = .ok 1 w)
    (hz : ∀ w, (zeroValue e).run P w = .ok z w) (hzc : z.cells = #[z]) (hza : ∀ S μ, V S μ (f zv) z) (ho : o.op = .makeSlice t x y) (hx : ev τ x = .i64 n) (hy : ev τ y = .i64 n) (hm : mkok by_ n = true) :
    TOp P o τ Γ (.oref p (g.ver + 1) 0 n.toNat) [(p, (List.replicate n.toNat zv).map f)] := by
  rw [List.map_replicate]
  exact TOp.makeSlice_o p hp ht ⟨I, hi, hby⟩ hsz hz hzc hza ho hx hy (mk_lo hm) (mk_hi hm) (mk_by hm)
theorem LOp.fap {s : TypeId} {x : Operand} {f : Nat} {fs : Array Field} {fd : Field} {n : Nat} {l r : List AV} (hs : ∀ w, (underlying s).run P w = .ok (.struct fs) w) (hf : fs[f]? = some fd) (hn : ∀ w, (sizeOf fd.type).run P w = .ok (n + 1) w)
    (ho : o.op = .fieldAddr s x f) (hx : ev τ x = .ptr l) (hr : l.drop fd.offset = r) : LOp P o τ (.ptr r) := hr ▸ LOp.fieldAddr_ptr hs hf hn ho hx
theorem LOp.fao {s : TypeId} {x : Operand} {f : Nat} {fs : Array Field} {fd : Field} {n p ver off off' : Nat} (hs : ∀ w, (underlying s).run P w = .ok (.struct fs) w) (hf : fs[f]? = some fd) (hn : ∀ w, (sizeOf fd.type).run P w = .ok (n + 1) w)
    (ho : o.op = .fieldAddr s x f) (hx : ev τ x = .optr p ver off) (hr : off + fd.offset = off') : LOp P o τ (.optr p ver off') := hr ▸ LOp.fieldAddr_optr hs hf hn ho hx
theorem nz {n : Int} (h : (!decide (n = 0)) = true) : n ≠ 0 := by simpa using h
def apok (by_ n m : Nat) : Bool := decide ((n + m) * by_ ≤ 140737488355328) && decide (n + m ≤ 4611686018427387904)
theorem ap_by {b n m : Nat} (h : apok b n m = true) : (n + m) * b ≤ 140737488355328 := by simp [apok] at h; exact h.1
theorem ap_mx {b n m : Nat} (h : apok b n m = true) : n + m ≤ 4611686018427387904 := by simp [apok] at h; exact h.2
theorem app_len {α : Type} {a b : List α} {n m : Nat} (h : a.length = n) (k : b.length = m) : (a ++ b).length = n + m := by simp [h, k]
theorem ones_map {α : Type} {f : α → AV} (hf : ∀ x, (f x).one = true) {l : List α} : (l.map f).all AV.one = true := by
  induction l with
  | nil => rfl
  | cons a l ih => simp only [List.map_cons, List.all_cons, hf, Bool.true_and]; exact ih
theorem ROps.app {α : Type} {f : α → AV} {xs ys : List α} {all : Array Oper} {rest : List Oper} {t e : TypeId} {s x : Operand} {I : TypeInfo} {z : Value} {bytes : Nat} {p ver n m d : Nat} {Γ' : List Ob} (hw : wantT all τ o = some true)
    (ht : P.underlying t = some (.slice e)) (hI : P.info? e = some I) (hz : I.zero = some z) (hsz : I.size = 1) (hby : I.bytes = bytes) (hzs : z.cells.size = 1)
    (ho : o.op = .call { callee := .builtin .append, args := #[s, x], argTypes := #[t, t] }) (hd : o.dst = some d) (hN : Nat.blt d (N / 2) = true) (hs : ev τ s = .oref p ver 0 n) (hp : Γ[p]? = some ⟨ver, some (xs.map f)⟩) (hl : xs.length = n) (hx : ReadAs Γ (ev τ x) m (ys.map f)) (hone : (ys.map f).all AV.one = true)
    (hb : (n + m) * bytes ≤ 140737488355328) (hmx : n + m ≤ 4611686018427387904) (hΓ : Γ.set p ⟨ver + 1, some ((xs ++ ys).map f)⟩ = Γ') (h : ROps P N all rest ((d, .oref p (ver + 1) 0 (n + m)) :: τ) Γ' Q) : ROps P N all (o :: rest) τ Γ Q := by
  refine ROps.op hw (ROp.append ht hI hz hsz hby hzs ho (by simp only [dstLt, hd]; simpa using hN) hs hp (by simpa using hl) hx hone hb hmx ?_)
  rw [hd, ← List.map_append, hΓ]; exact h
/-- Whole numbers' bits. -/
def ibit (op : BinOp) (k : IntKind) (m n : Int) : Int := match op with
  | .and => k.wrap (BitVec.ofInt 64 m &&& BitVec.ofInt 64 n).toNat
  | _ => 0

theorem LOp.real {k : FloatKind} {x : Operand} {tys : Array TypeId} {a b : F} (ho : o.op = .call { callee := .builtin .real, args := #[x], argTypes := tys }) (hx : ev τ x = .cx k a b) : LOp P o τ (.f k a) := by
  intro S μ ac h
  have k1 := opnd h (x := x) (by simp [ho, Op.operands, Call.operands]) hx
  simp only [V] at k1
  obtain ⟨u, v, k1, k2, k3⟩ := k1
  exact ⟨.float k u, fun w _ => by
    have e : ∀ t ty, Builtin.real_ t ty #[.complex k u v] = pure (.float k u) := fun _ _ => rfl
    simp [execOp, ho, resolve, invoke, builtin, k1, e], by simp only [V]; exact ⟨u, rfl, k2⟩⟩
theorem LOp.imag {k : FloatKind} {x : Operand} {tys : Array TypeId} {a b : F} (ho : o.op = .call { callee := .builtin .imag, args := #[x], argTypes := tys }) (hx : ev τ x = .cx k a b) : LOp P o τ (.f k b) := by
  intro S μ ac h
  have k1 := opnd h (x := x) (by simp [ho, Op.operands, Call.operands]) hx
  simp only [V] at k1
  obtain ⟨u, v, k1, k2, k3⟩ := k1
  exact ⟨.float k v, fun w _ => by
    have e : ∀ t ty, Builtin.imag_ t ty #[.complex k u v] = pure (.float k v) := fun _ _ => rfl
    simp [execOp, ho, resolve, invoke, builtin, k1, e], by simp only [V]; exact ⟨v, rfl, k3⟩⟩
theorem LOp.complex {k : FloatKind} {x y : Operand} {tys : Array TypeId} {a b : F} (ho : o.op = .call { callee := .builtin .complex, args := #[x, y], argTypes := tys }) (hx : OpF τ x k a) (hy : OpF τ y k b) : LOp P o τ (.cx k a b) := by
  intro S μ ac h
  obtain ⟨u, e1, f1⟩ := hx S μ ac (h x (by simp [ho, Op.operands, Call.operands]))
  obtain ⟨v, e2, f2⟩ := hy S μ ac (h y (by simp [ho, Op.operands, Call.operands]))
  exact ⟨.complex k u v, fun w _ => by
    have e : ∀ t ty, Builtin.complex_ t ty #[.float k u, .float k v] = (if k = k then pure (.complex k u v) else stuck "complex: parts of different kinds") := fun _ _ => rfl
    simp [execOp, ho, resolve, invoke, builtin, e1, e2, e], by simp only [V]; exact ⟨u, v, rfl, f1, f2⟩⟩

/-- Renaming leaves a list of plain elements. -/
theorem rens_f32 {σ : Nat → Nat × Nat} {l : List F} : AV.rens σ (l.map AV.f32) = l.map AV.f32 := (rens_map (fun _ => rfl)).symm
theorem rens_f64 {σ : Nat → Nat × Nat} {l : List F} : AV.rens σ (l.map AV.f64) = l.map AV.f64 := (rens_map (fun _ => rfl)).symm
theorem rens_i64 {σ : Nat → Nat × Nat} {l : List Int} : AV.rens σ (l.map AV.i64) = l.map AV.i64 := (rens_map (fun _ => rfl)).symm
theorem rens_ik {k : IntKind} {σ : Nat → Nat × Nat} {l : List Int} : AV.rens σ (l.map (AV.ik k)) = l.map (AV.ik k) := (rens_map (fun _ => rfl)).symm
theorem rens_str {σ : Nat → Nat × Nat} {l : List ByteArray} : AV.rens σ (l.map AV.str) = l.map AV.str := (rens_map (fun _ => rfl)).symm
theorem rens_cp {k : FloatKind} {σ : Nat → Nat × Nat} {l : List (F × F)} : AV.rens σ (l.map (AV.cp k)) = l.map (AV.cp k) := (rens_map (fun _ => rfl)).symm
def LiveL (Γ : List Ob) : List (Nat × Nat) → Prop
  | [] => True
  | p :: l => (∃ ver c, Γ[p.1]? = some ⟨ver, some c⟩) ∧ LiveL Γ l
theorem live_of : ∀ {sel : List (Nat × Nat)}, LiveL Γ sel → ∀ p ∈ sel, ∃ ver l, Γ[p.1]? = some ⟨ver, some l⟩
  | [], _, p, hp => by cases hp
  | q :: sel, h, p, hp => by
    rcases List.mem_cons.1 hp with e | hp
    · subst e; exact h.1
    · exact live_of h.2 p hp
def NewsL (Γ : List Ob) : List (Nat × Nat) → Prop
  | [] => True
  | p :: l => (∃ ver, Γ[p.1]? = some ⟨ver, none⟩ ∧ p.2 = ver + 1) ∧ NewsL Γ l
theorem news_of : ∀ {ns : List (Nat × Nat)}, NewsL Γ ns → ∀ p ∈ ns, ∃ ver, Γ[p.1]? = some ⟨ver, none⟩ ∧ p.2 = ver + 1
  | [], _, p, hp => by cases hp
  | q :: ns, h, p, hp => by
    rcases List.mem_cons.1 hp with e | hp
    · subst e; exact h.1
    · exact news_of h.2 p hp
theorem ROps.callO {all : Array Oper} {rest : List Oper} {d : Nat} {f : FuncId} {A args : List AV} {Γc Γc' Γ' : List Ob} {r r' : AV} (sel ns : List (Nat × Nat)) (hw : wantT all τ o = some true) (hc : CallAs P o τ f A) (hd : o.dst = some d) (hN : Nat.blt d (N / 2) = true)
    (hsel : SelOk sel Γ Γc) (hlive : ∀ p ∈ sel, ∃ ver l, Γ[p.1]? = some ⟨ver, some l⟩) (hA : AV.rens (sigma sel) args = A) (hlt : AV.lts sel.length args = true) (hev : Ev P f args Γc r Γc') (hlen : Γc'.length = sel.length + ns.length)
    (hns : ∀ p ∈ ns, ∃ ver, Γ[p.1]? = some ⟨ver, none⟩ ∧ p.2 = ver + 1) (hnd : ((sel ++ ns).map (·.1)).Nodup) (hr : r.ren (sigma (sel ++ ns)) = r') (hΓ : backOb (sel ++ ns) Γc' Γ = Γ') (h : ROps P N all rest ((d, r') :: τ) Γ' Q) : ROps P N all (o :: rest) τ Γ Q :=
  ROps.op hw (ROp.call hc (by simp only [dstLt, hd]; simpa using hN) hsel hlive hA hlt hev hlen hns hnd (by rw [hd, hr, hΓ]; exact h))
theorem ROps.callO' {all : Array Oper} {rest : List Oper} {f : FuncId} {A args : List AV} {Γc Γc' Γ' : List Ob} {r : AV} (sel ns : List (Nat × Nat)) (hw : wantT all τ o = some true) (hc : CallAs P o τ f A) (hd : o.dst = none)
    (hsel : SelOk sel Γ Γc) (hlive : ∀ p ∈ sel, ∃ ver l, Γ[p.1]? = some ⟨ver, some l⟩) (hA : AV.rens (sigma sel) args = A) (hlt : AV.lts sel.length args = true) (hev : Ev P f args Γc r Γc') (hlen : Γc'.length = sel.length + ns.length)
    (hns : ∀ p ∈ ns, ∃ ver, Γ[p.1]? = some ⟨ver, none⟩ ∧ p.2 = ver + 1) (hnd : ((sel ++ ns).map (·.1)).Nodup) (hΓ : backOb (sel ++ ns) Γc' Γ = Γ') (h : ROps P N all rest τ Γ' Q) : ROps P N all (o :: rest) τ Γ Q :=
  ROps.op hw (ROp.call hc (by simp only [dstLt, hd]) hsel hlive hA hlt hev hlen hns hnd (by rw [hd, hΓ]; exact h))

/-! calls whose new objects are settled at once -/
theorem ALes.vp : ∀ {l m : List AV}, ALes l m → ∀ {S : Snap} {μ : List Mu} {vs : List Value}, VP S μ l vs → VP S μ m vs
  | [], [], _, _, _, _, _ => by simp only [VP]
  | a :: l, b :: m, k, S, μ, vs, h => by
    cases vs with
    | nil => simp only [VP] at h
    | cons v vs =>
      simp only [VP] at h ⊢
      exact ⟨k.1 _ _ _ h.1, ALes.vp k.2 h.2⟩
  | [], _ :: _, k, _, _, _, _ => k.elim
  | _ :: _, [], k, _, _, _, _ => k.elim
theorem ALes.nil : ALes [] [] := trivial
theorem ALes.cons {a b : AV} {l m : List AV} (h : ALe a b) (k : ALes l m) : ALes (a :: l) (b :: m) := ⟨h, k⟩
theorem ALe.agg {l m : List AV} (h : ALes l m) : ALe (.agg l) (.agg m) := by
  intro S μ v hv
  simp only [V] at hv ⊢
  obtain ⟨cs, h1, h2⟩ := hv
  exact ⟨cs, h1, h.vl h2⟩
theorem ALe.ptrs {l m : List AV} (h : ALes l m) : ALe (.ptr l) (.ptr m) := by
  intro S μ v hv
  simp only [V] at hv ⊢
  obtain ⟨b, off, cs, h1, h2, h3⟩ := hv
  exact ⟨b, off, cs, h1, h2, h.vp h3⟩
theorem CallAs.le {f : FuncId} {A A' : List AV} (h : CallAs P o τ f A) (e : ALes A A') : CallAs P o τ f A' := fun S μ a w hx => (h S μ a w hx).elim fun vs hv => ⟨vs, hv.1, e.vl hv.2⟩
theorem lts_nil {k : Nat} : AV.lts k [] = true := rfl
theorem lts_cons {k : Nat} {a : AV} {l : List AV} (h : a.lt k = true) (h2 : AV.lts k l = true) : AV.lts k (a :: l) = true := by simp only [AV.lts, h, h2, Bool.and_self]
theorem lt_agg {k : Nat} {l : List AV} (h : AV.lts k l = true) : (AV.agg l).lt k = true := by simp only [AV.lt, h]
theorem lt_tup {k : Nat} {l : List AV} (h : AV.lts k l = true) : (AV.tup l).lt k = true := by simp only [AV.lt, h]
theorem lt_ptr {k : Nat} {l : List AV} (h : AV.lts k l = true) : (AV.ptr l).lt k = true := by simp only [AV.lt, h]
theorem lt_fn {k : Nat} {g : Fn} {p q : List AV} (h : AV.lts k p = true) (h2 : AV.lts k q = true) : (AV.fn g p q).lt k = true := by simp only [AV.lt, h, h2, Bool.and_self]
theorem lt_sl {α : Type} {f : α → AV} (hf : ∀ x, (f x).lt 0 = true) {n : Nat} {l : List α} : (AV.sl n (l.map f)).lt 0 = true := by simp only [AV.lt, lts0_map hf]
theorem TOp.callS {f : FuncId} {A A' : List AV} {r r' : AV} {Γ' : List Ob} (hc : CallAs P o τ f A) (hA : ALes A A') (hA0 : AV.lts 0 A' = true) (hr : r'.lt 0 = true) (hev : Ev P f A' [] r Γ') (hb : Bor Γ' r r') : TOp P o τ Γ r' [] :=
  TOp.call (hc.le hA) hA0 hr (hev.settle hb)

section draw
variable {all : Array Oper} {rest : List Oper} {τ' : List (Nat × AV)} {n : Nat} {r : AV} {fs : List (Nat × List AV)} {fss : List (List (Nat × List AV))} {bs : List Bool}
theorem TR.l {d : Nat} (hw : wantT all τ o = some true) (hd : o.dst = some d) (hl : LOp P o τ r) (h : TRun P all Γ (List.take n rest) ((d, r) :: τ) τ' fss bs) : TRun P all Γ (List.take (n + 1) (o :: rest)) τ τ' ([] :: fss) (false :: bs) := TRun.l hw hd hl h
theorem TR.d {d : Nat} (hw : wantT all τ o = some true) (hd : o.dst = some d) (ht : TOp P o τ Γ r fs) (h : TRun P all Γ (List.take n rest) ((d, r) :: τ) τ' fss bs) : TRun P all Γ (List.take (n + 1) (o :: rest)) τ τ' (fs :: fss) (false :: bs) := TRun.d hw hd ht h
theorem TR.loose {d : Nat} (hw : wantT all τ o = some true) (hd : o.dst = some d) (hl : LOp P o τ r) (h : TRun P all Γ (List.take n rest) ((d, r) :: τ) τ' fss bs) : TRun P all Γ (List.take (n + 1) (o :: rest)) τ τ' ([] :: fss) (true :: bs) := TRun.loose' hw hd hl h
theorem TR.s {d : Nat} (hw : wantT all τ o = some false) (hd : o.dst = some d) (h : TRun P all Γ (List.take n rest) ((d, .x undef) :: τ) τ' fss bs) : TRun P all Γ (List.take (n + 1) (o :: rest)) τ τ' ([] :: fss) (false :: bs) := TRun.s hw hd h
theorem TR.nil {l : List Oper} : TRun P all Γ (List.take 0 l) τ τ [] [] := TRun.nil τ
theorem ROps.dropS (h : ROps P N all (List.drop n rest) τ Γ Q) : ROps P N all (List.drop (n + 1) (o :: rest)) τ Γ Q := h
theorem ROps.drop0 {l : List Oper} (h : ROps P N all l τ Γ Q) : ROps P N all (List.drop 0 l) τ Γ Q := h
end draw
end
end Go.AM
namespace Go.AM
section
variable {P : Program} {N : Nat} {o : Oper} {τ : List (Nat × AV)} {Γ : List Ob} {Q : PQ}
/-- Is a settled slice nil? Both ways are gone; on the one it has no elements. -/
theorem ROps.eqnil {all : Array Oper} {rest : List Oper} {t ty e : TypeId} {x y : Operand} {n d : Nat} {l : List AV} (hw : wantT all τ o = some true) (ht : P.underlying t = some (.slice e)) (ho : o.op = .binOp .eql t x y ty) (hd : o.dst = some d) (hN : Nat.blt d (N / 2) = true) (hx : ev τ x = .sl n l) (hy : ev τ y = .nilsl)
    (h1 : l = [] → ROps P N all rest ((d, .b true) :: τ) Γ Q) (h2 : ROps P N all rest ((d, .b false) :: τ) Γ Q) : ROps P N all (o :: rest) τ Γ Q := by
  refine ROps.op hw ?_
  intro S0 μ0 w0 S μ a w hi next Q' hnx
  have k1 := hi.ci.ev x
  have k2 := hi.ci.ev y
  rw [hx] at k1
  rw [hy] at k2
  simp only [V] at k1 k2
  obtain ⟨ad, cap, k1, k3, k4⟩ := k1
  have hu : ∀ w, (underlying t).run P w = .ok (.slice e) w := run_underlying ht
  have fin : ∀ b : Bool, (execOp a.eval o).run P w = .ok (.value (.bool b)) w → ROps P N all rest ((d, .b b) :: τ) Γ Q → o.wp P a w next Q' := by
    intro b hrun hk
    unfold Oper.wp
    rw [hrun]
    refine hnx S μ (.bool b) w _ Γ (SExt.refl S) hk ⟨hi.fr, hi.wi, ?_, by rw [put_size]; exact hi.tsz, by rw [put_defers]; exact hi.dfr⟩
    have := hi.ci.put (dst := o.dst) (r := .b b) (v := .bool b) (fun d' hd' => by rw [hi.tsz.1]; rw [hd] at hd'; cases hd'; simpa using hN) (by simp only [V])
    rw [hd] at this ⊢
    exact this
  cases ad with
  | none =>
    refine fin true ?_ (h1 ?_)
    · have : (Op.equal t (.slice none n cap) (.slice none 0 0)).run P w = .ok true w := by
        unfold Op.equal Op.maxDepth Op.equalIn; simp [hu]
      simp [execOp, ho, k1, k2, eqGuard, binOp, this]
    · rcases k4 with h | ⟨b, off, cs, h, _⟩
      · exact h
      · cases h
  | some b =>
    refine fin false ?_ h2
    have : (Op.equal t (.slice (some b) n cap) (.slice none 0 0)).run P w = .ok false w := by
      unfold Op.equal Op.maxDepth Op.equalIn; simp [hu]
    simp [execOp, ho, k1, k2, eqGuard, binOp, this]
end
end Go.AM

/- The abstract layer: binds of many parts. -/
namespace Go.AM
def obind9 {α0 α1 α2 α3 α4 α5 α6 α7 α8 β : Type} (x : Option (α0 × α1 × α2 × α3 × α4 × α5 × α6 × α7 × α8)) (k : α0 → α1 → α2 → α3 → α4 → α5 → α6 → α7 → α8 → Option β) : Option β := x.bind fun y => k y.1 y.2.1 y.2.2.1 y.2.2.2.1 y.2.2.2.2.1 y.2.2.2.2.2.1 y.2.2.2.2.2.2.1 y.2.2.2.2.2.2.2.1 y.2.2.2.2.2.2.2.2
theorem obind9_some {α0 α1 α2 α3 α4 α5 α6 α7 α8 β : Type} {x : Option (α0 × α1 × α2 × α3 × α4 × α5 × α6 × α7 × α8)} {k : α0 → α1 → α2 → α3 → α4 → α5 → α6 → α7 → α8 → Option β} {r : β} (h : obind9 x k = some r) : ∃ a0 a1 a2 a3 a4 a5 a6 a7 a8, x = some (a0, a1, a2, a3, a4, a5, a6, a7, a8) ∧ k a0 a1 a2 a3 a4 a5 a6 a7 a8 = some r := by
  obtain ⟨⟨a0, a1, a2, a3, a4, a5, a6, a7, a8⟩, h1, h2⟩ := Option.bind_eq_some_iff.1 h; exact ⟨a0, a1, a2, a3, a4, a5, a6, a7, a8, h1, h2⟩
@[simp] theorem obind9_eq {α0 α1 α2 α3 α4 α5 α6 α7 α8 β : Type} (a0 : α0) (a1 : α1) (a2 : α2) (a3 : α3) (a4 : α4) (a5 : α5) (a6 : α6) (a7 : α7) (a8 : α8) (k : α0 → α1 → α2 → α3 → α4 → α5 → α6 → α7 → α8 → Option β) : obind9 (some (a0, a1, a2, a3, a4, a5, a6, a7, a8)) k = k a0 a1 a2 a3 a4 a5 a6 a7 a8 := rfl
def obind10 {α0 α1 α2 α3 α4 α5 α6 α7 α8 α9 β : Type} (x : Option (α0 × α1 × α2 × α3 × α4 × α5 × α6 × α7 × α8 × α9)) (k : α0 → α1 → α2 → α3 → α4 → α5 → α6 → α7 → α8 → α9 → Option β) : Option β := x.bind fun y => k y.1 y.2.1 y.2.2.1 y.2.2.2.1 y.2.2.2.2.1 y.2.2.2.2.2.1 y.2.2.2.2.2.2.1 y.2.2.2.2.2.2.2.1 y.2.2.2.2.2.2.2.2.1 y.2.2.2.2.2.2.2.2.2
theorem obind10_some {α0 α1 α2 α3 α4 α5 α6 α7 α8 α9 β : Type} {x : Option (α0 × α1 × α2 × α3 × α4 × α5 × α6 × α7 × α8 × α9)} {k : α0 → α1 → α2 → α3 → α4 → α5 → α6 → α7 → α8 → α9 → Option β} {r : β} (h : obind10 x k = some r) : ∃ a0 a1 a2 a3 a4 a5 a6 a7 a8 a9, x = some (a0, a1, a2, a3, a4, a5, a6, a7, a8, a9) ∧ k a0 a1 a2 a3 a4 a5 a6 a7 a8 a9 = some r := by
  obtain ⟨⟨a0, a1, a2, a3, a4, a5, a6, a7, a8, a9⟩, h1, h2⟩ := Option.bind_eq_some_iff.1 h; exact ⟨a0, a1, a2, a3, a4, a5, a6, a7, a8, a9, h1, h2⟩
@[simp] theorem obind10_eq {α0 α1 α2 α3 α4 α5 α6 α7 α8 α9 β : Type} (a0 : α0) (a1 : α1) (a2 : α2) (a3 : α3) (a4 : α4) (a5 : α5) (a6 : α6) (a7 : α7) (a8 : α8) (a9 : α9) (k : α0 → α1 → α2 → α3 → α4 → α5 → α6 → α7 → α8 → α9 → Option β) : obind10 (some (a0, a1, a2, a3, a4, a5, a6, a7, a8, a9)) k = k a0 a1 a2 a3 a4 a5 a6 a7 a8 a9 := rfl
def obind11 {α0 α1 α2 α3 α4 α5 α6 α7 α8 α9 α10 β : Type} (x : Option (α0 × α1 × α2 × α3 × α4 × α5 × α6 × α7 × α8 × α9 × α10)) (k : α0 → α1 → α2 → α3 → α4 → α5 → α6 → α7 → α8 → α9 → α10 → Option β) : Option β := x.bind fun y => k y.1 y.2.1 y.2.2.1 y.2.2.2.1 y.2.2.2.2.1 y.2.2.2.2.2.1 y.2.2.2.2.2.2.1 y.2.2.2.2.2.2.2.1 y.2.2.2.2.2.2.2.2.1 y.2.2.2.2.2.2.2.2.2.1 y.2.2.2.2.2.2.2.2.2.2
theorem obind11_some {α0 α1 α2 α3 α4 α5 α6 α7 α8 α9 α10 β : Type} {x : Option (α0 × α1 × α2 × α3 × α4 × α5 × α6 × α7 × α8 × α9 × α10)} {k : α0 → α1 → α2 → α3 → α4 → α5 → α6 → α7 → α8 → α9 → α10 → Option β} {r : β} (h : obind11 x k = some r) : ∃ a0 a1 a2 a3 a4 a5 a6 a7 a8 a9 a10, x = some (a0, a1, a2, a3, a4, a5, a6, a7, a8, a9, a10) ∧ k a0 a1 a2 a3 a4 a5 a6 a7 a8 a9 a10 = some r := by
  obtain ⟨⟨a0, a1, a2, a3, a4, a5, a6, a7, a8, a9, a10⟩, h1, h2⟩ := Option.bind_eq_some_iff.1 h; exact ⟨a0, a1, a2, a3, a4, a5, a6, a7, a8, a9, a10, h1, h2⟩
@[simp] theorem obind11_eq {α0 α1 α2 α3 α4 α5 α6 α7 α8 α9 α10 β : Type} (a0 : α0) (a1 : α1) (a2 : α2) (a3 : α3) (a4 : α4) (a5 : α5) (a6 : α6) (a7 : α7) (a8 : α8) (a9 : α9) (a10 : α10) (k : α0 → α1 → α2 → α3 → α4 → α5 → α6 → α7 → α8 → α9 → α10 → Option β) : obind11 (some (a0, a1, a2, a3, a4, a5, a6, a7, a8, a9, a10)) k = k a0 a1 a2 a3 a4 a5 a6 a7 a8 a9 a10 := rfl
def obind12 {α0 α1 α2 α3 α4 α5 α6 α7 α8 α9 α10 α11 β : Type} (x : Option (α0 × α1 × α2 × α3 × α4 × α5 × α6 × α7 × α8 × α9 × α10 × α11)) (k : α0 → α1 → α2 → α3 → α4 → α5 → α6 → α7 → α8 → α9 → α10 → α11 → Option β) : Option β := x.bind fun y => k y.1 y.2.1 y.2.2.1 y.2.2.2.1 y.2.2.2.2.1 y.2.2.2.2.2.1 y.2.2.2.2.2.2.1 y.2.2.2.2.2.2.2.1 y.2.2.2.2.2.2.2.2.1 y.2.2.2.2.2.2.2.2.2.1 y.2.2.2.2.2.2.2.2.2.2.1 y.2.2.2.2.2.2.2.2.2.2.2
theorem obind12_some {α0 α1 α2 α3 α4 α5 α6 α7 α8 α9 α10 α11 β : Type} {x : Option (α0 × α1 × α2 × α3 × α4 × α5 × α6 × α7 × α8 × α9 × α10 × α11)} {k : α0 → α1 → α2 → α3 → α4 → α5 → α6 → α7 → α8 → α9 → α10 → α11 → Option β} {r : β} (h : obind12 x k = some r) : ∃ a0 a1 a2 a3 a4 a5 a6 a7 a8 a9 a10 a11, x = some (a0, a1, a2, a3, a4, a5, a6, a7, a8, a9, a10, a11) ∧ k a0 a1 a2 a3 a4 a5 a6 a7 a8 a9 a10 a11 = some r := by
  obtain ⟨⟨a0, a1, a2, a3, a4, a5, a6, a7, a8, a9, a10, a11⟩, h1, h2⟩ := Option.bind_eq_some_iff.1 h; exact ⟨a0, a1, a2, a3, a4, a5, a6, a7, a8, a9, a10, a11, h1, h2⟩
@[simp] theorem obind12_eq {α0 α1 α2 α3 α4 α5 α6 α7 α8 α9 α10 α11 β : Type} (a0 : α0) (a1 : α1) (a2 : α2) (a3 : α3) (a4 : α4) (a5 : α5) (a6 : α6) (a7 : α7) (a8 : α8) (a9 : α9) (a10 : α10) (a11 : α11) (k : α0 → α1 → α2 → α3 → α4 → α5 → α6 → α7 → α8 → α9 → α10 → α11 → Option β) : obind12 (some (a0, a1, a2, a3, a4, a5, a6, a7, a8, a9, a10, a11)) k = k a0 a1 a2 a3 a4 a5 a6 a7 a8 a9 a10 a11 := rfl
def obind13 {α0 α1 α2 α3 α4 α5 α6 α7 α8 α9 α10 α11 α12 β : Type} (x : Option (α0 × α1 × α2 × α3 × α4 × α5 × α6 × α7 × α8 × α9 × α10 × α11 × α12)) (k : α0 → α1 → α2 → α3 → α4 → α5 → α6 → α7 → α8 → α9 → α10 → α11 → α12 → Option β) : Option β := x.bind fun y => k y.1 y.2.1 y.2.2.1 y.2.2.2.1 y.2.2.2.2.1 y.2.2.2.2.2.1 y.2.2.2.2.2.2.1 y.2.2.2.2.2.2.2.1 y.2.2.2.2.2.2.2.2.1 y.2.2.2.2.2.2.2.2.2.1 y.2.2.2.2.2.2.2.2.2.2.1 y.2.2.2.2.2.2.2.2.2.2.2.1 y.2.2.2.2.2.2.2.2.2.2.2.2
theorem obind13_some {α0 α1 α2 α3 α4 α5 α6 α7 α8 α9 α10 α11 α12 β : Type} {x : Option (α0 × α1 × α2 × α3 × α4 × α5 × α6 × α7 × α8 × α9 × α10 × α11 × α12)} {k : α0 → α1 → α2 → α3 → α4 → α5 → α6 → α7 → α8 → α9 → α10 → α11 → α12 → Option β} {r : β} (h : obind13 x k = some r) : ∃ a0 a1 a2 a3 a4 a5 a6 a7 a8 a9 a10 a11 a12, x = some (a0, a1, a2, a3, a4, a5, a6, a7, a8, a9, a10, a11, a12) ∧ k a0 a1 a2 a3 a4 a5 a6 a7 a8 a9 a10 a11 a12 = some r := by
  obtain ⟨⟨a0, a1, a2, a3, a4, a5, a6, a7, a8, a9, a10, a11, a12⟩, h1, h2⟩ := Option.bind_eq_some_iff.1 h; exact ⟨a0, a1, a2, a3, a4, a5, a6, a7, a8, a9, a10, a11, a12, h1, h2⟩
@[simp] theorem obind13_eq {α0 α1 α2 α3 α4 α5 α6 α7 α8 α9 α10 α11 α12 β : Type} (a0 : α0) (a1 : α1) (a2 : α2) (a3 : α3) (a4 : α4) (a5 : α5) (a6 : α6) (a7 : α7) (a8 : α8) (a9 : α9) (a10 : α10) (a11 : α11) (a12 : α12) (k : α0 → α1 → α2 → α3 → α4 → α5 → α6 → α7 → α8 → α9 → α10 → α11 → α12 → Option β) : obind13 (some (a0, a1, a2, a3, a4, a5, a6, a7, a8, a9, a10, a11, a12)) k = k a0 a1 a2 a3 a4 a5 a6 a7 a8 a9 a10 a11 a12 := rfl
def obind14 {α0 α1 α2 α3 α4 α5 α6 α7 α8 α9 α10 α11 α12 α13 β : Type} (x : Option (α0 × α1 × α2 × α3 × α4 × α5 × α6 × α7 × α8 × α9 × α10 × α11 × α12 × α13)) (k : α0 → α1 → α2 → α3 → α4 → α5 → α6 → α7 → α8 → α9 → α10 → α11 → α12 → α13 → Option β) : Option β := x.bind fun y => k y.1 y.2.1 y.2.2.1 y.2.2.2.1 y.2.2.2.2.1 y.2.2.2.2.2.1 y.2.2.2.2.2.2.1 y.2.2.2.2.2.2.2.1 y.2.2.2.2.2.2.2.2.1 y.2.2.2.2.2.2.2.2.2.1 y.2.2.2.2.2.2.2.2.2.2.1 y.2.2.2.2.2.2.2.2.2.2.2.1 y.2.2.2.2.2.2.2.2.2.2.2.2.1 y.2.2.2.2.2.2.2.2.2.2.2.2.2
theorem obind14_some {α0 α1 α2 α3 α4 α5 α6 α7 α8 α9 α10 α11 α12 α13 β : Type} {x : Option (α0 × α1 × α2 × α3 × α4 × α5 × α6 × α7 × α8 × α9 × α10 × α11 × α12 × α13)} {k : α0 → α1 → α2 → α3 → α4 → α5 → α6 → α7 → α8 → α9 → α10 → α11 → α12 → α13 → Option β} {r : β} (h : obind14 x k = some r) : ∃ a0 a1 a2 a3 a4 a5 a6 a7 a8 a9 a10 a11 a12 a13, x = some (a0, a1, a2, a3, a4, a5, a6, a7, a8, a9, a10, a11, a12, a13) ∧ k a0 a1 a2 a3 a4 a5 a6 a7 a8 a9 a10 a11 a12 a13 = some r := by
  obtain ⟨⟨a0, a1, a2, a3, a4, a5, a6, a7, a8, a9, a10, a11, a12, a13⟩, h1, h2⟩ := Option.bind_eq_some_iff.1 h; exact ⟨a0, a1, a2, a3, a4, a5, a6, a7, a8, a9, a10, a11, a12, a13, h1, h2⟩
@[simp] theorem obind14_eq {α0 α1 α2 α3 α4 α5 α6 α7 α8 α9 α10 α11 α12 α13 β : Type} (a0 : α0) (a1 : α1) (a2 : α2) (a3 : α3) (a4 : α4) (a5 : α5) (a6 : α6) (a7 : α7) (a8 : α8) (a9 : α9) (a10 : α10) (a11 : α11) (a12 : α12) (a13 : α13) (k : α0 → α1 → α2 → α3 → α4 → α5 → α6 → α7 → α8 → α9 → α10 → α11 → α12 → α13 → Option β) : obind14 (some (a0, a1, a2, a3, a4, a5, a6, a7, a8, a9, a10, a11, a12, a13)) k = k a0 a1 a2 a3 a4 a5 a6 a7 a8 a9 a10 a11 a12 a13 := rfl
def obind15 {α0 α1 α2 α3 α4 α5 α6 α7 α8 α9 α10 α11 α12 α13 α14 β : Type} (x : Option (α0 × α1 × α2 × α3 × α4 × α5 × α6 × α7 × α8 × α9 × α10 × α11 × α12 × α13 × α14)) (k : α0 → α1 → α2 → α3 → α4 → α5 → α6 → α7 → α8 → α9 → α10 → α11 → α12 → α13 → α14 → Option β) : Option β := x.bind fun y => k y.1 y.2.1 y.2.2.1 y.2.2.2.1 y.2.2.2.2.1 y.2.2.2.2.2.1 y.2.2.2.2.2.2.1 y.2.2.2.2.2.2.2.1 y.2.2.2.2.2.2.2.2.1 y.2.2.2.2.2.2.2.2.2.1 y.2.2.2.2.2.2.2.2.2.2.1 y.2.2.2.2.2.2.2.2.2.2.2.1 y.2.2.2.2.2.2.2.2.2.2.2.2.1 y.2.2.2.2.2.2.2.2.2.2.2.2.2.1 y.2.2.2.2.2.2.2.2.2.2.2.2.2.2
theorem obind15_some {α0 α1 α2 α3 α4 α5 α6 α7 α8 α9 α10 α11 α12 α13 α14 β : Type} {x : Option (α0 × α1 × α2 × α3 × α4 × α5 × α6 × α7 × α8 × α9 × α10 × α11 × α12 × α13 × α14)} {k : α0 → α1 → α2 → α3 → α4 → α5 → α6 → α7 → α8 → α9 → α10 → α11 → α12 → α13 → α14 → Option β} {r : β} (h : obind15 x k = some r) : ∃ a0 a1 a2 a3 a4 a5 a6 a7 a8 a9 a10 a11 a12 a13 a14, x = some (a0, a1, a2, a3, a4, a5, a6, a7, a8, a9, a10, a11, a12, a13, a14) ∧ k a0 a1 a2 a3 a4 a5 a6 a7 a8 a9 a10 a11 a12 a13 a14 = some r := by
  obtain ⟨⟨a0, a1, a2, a3, a4, a5, a6, a7, a8, a9, a10, a11, a12, a13, a14⟩, h1, h2⟩ := Option.bind_eq_some_iff.1 h; exact ⟨a0, a1, a2, a3, a4, a5, a6, a7, a8, a9, a10, a11, a12, a13, a14, h1, h2⟩
@[simp] theorem obind15_eq {α0 α1 α2 α3 α4 α5 α6 α7 α8 α9 α10 α11 α12 α13 α14 β : Type} (a0 : α0) (a1 : α1) (a2 : α2) (a3 : α3) (a4 : α4) (a5 : α5) (a6 : α6) (a7 : α7) (a8 : α8) (a9 : α9) (a10 : α10) (a11 : α11) (a12 : α12) (a13 : α13) (a14 : α14) (k : α0 → α1 → α2 → α3 → α4 → α5 → α6 → α7 → α8 → α9 → α10 → α11 → α12 → α13 → α14 → Option β) : obind15 (some (a0, a1, a2, a3, a4, a5, a6, a7, a8, a9, a10, a11, a12, a13, a14)) k = k a0 a1 a2 a3 a4 a5 a6 a7 a8 a9 a10 a11 a12 a13 a14 := rfl
def obind16 {α0 α1 α2 α3 α4 α5 α6 α7 α8 α9 α10 α11 α12 α13 α14 α15 β : Type} (x : Option (α0 × α1 × α2 × α3 × α4 × α5 × α6 × α7 × α8 × α9 × α10 × α11 × α12 × α13 × α14 × α15)) (k : α0 → α1 → α2 → α3 → α4 → α5 → α6 → α7 → α8 → α9 → α10 → α11 → α12 → α13 → α14 → α15 → Option β) : Option β := x.bind fun y => k y.1 y.2.1 y.2.2.1 y.2.2.2.1 y.2.2.2.2.1 y.2.2.2.2.2.1 y.2.2.2.2.2.2.1 y.2.2.2.2.2.2.2.1 y.2.2.2.2.2.2.2.2.1 y.2.2.2.2.2.2.2.2.2.1 y.2.2.2.2.2.2.2.2.2.2.1 y.2.2.2.2.2.2.2.2.2.2.2.1 y.2.2.2.2.2.2.2.2.2.2.2.2.1 y.2.2.2.2.2.2.2.2.2.2.2.2.2.1 y.2.2.2.2.2.2.2.2.2.2.2.2.2.2.1 y.2.2.2.2.2.2.2.2.2.2.2.2.2.2.2
theorem obind16_some {α0 α1 α2 α3 α4 α5 α6 α7 α8 α9 α10 α11 α12 α13 α14 α15 β : Type} {x : Option (α0 × α1 × α2 × α3 × α4 × α5 × α6 × α7 × α8 × α9 × α10 × α11 × α12 × α13 × α14 × α15)} {k : α0 → α1 → α2 → α3 → α4 → α5 → α6 → α7 → α8 → α9 → α10 → α11 → α12 → α13 → α14 → α15 → Option β} {r : β} (h : obind16 x k = some r) : ∃ a0 a1 a2 a3 a4 a5 a6 a7 a8 a9 a10 a11 a12 a13 a14 a15, x = some (a0, a1, a2, a3, a4, a5, a6, a7, a8, a9, a10, a11, a12, a13, a14, a15) ∧ k a0 a1 a2 a3 a4 a5 a6 a7 a8 a9 a10 a11 a12 a13 a14 a15 = some r := by
  obtain ⟨⟨a0, a1, a2, a3, a4, a5, a6, a7, a8, a9, a10, a11, a12, a13, a14, a15⟩, h1, h2⟩ := Option.bind_eq_some_iff.1 h; exact ⟨a0, a1, a2, a3, a4, a5, a6, a7, a8, a9, a10, a11, a12, a13, a14, a15, h1, h2⟩
@[simp] theorem obind16_eq {α0 α1 α2 α3 α4 α5 α6 α7 α8 α9 α10 α11 α12 α13 α14 α15 β : Type} (a0 : α0) (a1 : α1) (a2 : α2) (a3 : α3) (a4 : α4) (a5 : α5) (a6 : α6) (a7 : α7) (a8 : α8) (a9 : α9) (a10 : α10) (a11 : α11) (a12 : α12) (a13 : α13) (a14 : α14) (a15 : α15) (k : α0 → α1 → α2 → α3 → α4 → α5 → α6 → α7 → α8 → α9 → α10 → α11 → α12 → α13 → α14 → α15 → Option β) : obind16 (some (a0, a1, a2, a3, a4, a5, a6, a7, a8, a9, a10, a11, a12, a13, a14, a15)) k = k a0 a1 a2 a3 a4 a5 a6 a7 a8 a9 a10 a11 a12 a13 a14 a15 := rfl
def obind17 {α0 α1 α2 α3 α4 α5 α6 α7 α8 α9 α10 α11 α12 α13 α14 α15 α16 β : Type} (x : Option (α0 × α1 × α2 × α3 × α4 × α5 × α6 × α7 × α8 × α9 × α10 × α11 × α12 × α13 × α14 × α15 × α16)) (k : α0 → α1 → α2 → α3 → α4 → α5 → α6 → α7 → α8 → α9 → α10 → α11 → α12 → α13 → α14 → α15 → α16 → Option β) : Option β := x.bind fun y => k y.1 y.2.1 y.2.2.1 y.2.2.2.1 y.2.2.2.2.1 y.2.2.2.2.2.1 y.2.2.2.2.2.2.1 y.2.2.2.2.2.2.2.1 y.2.2.2.2.2.2.2.2.1 y.2.2.2.2.2.2.2.2.2.1 y.2.2.2.2.2.2.2.2.2.2.1 y.2.2.2.2.2.2.2.2.2.2.2.1 y.2.2.2.2.2.2.2.2.2.2.2.2.1 y.2.2.2.2.2.2.2.2.2.2.2.2.2.1 y.2.2.2.2.2.2.2.2.2.2.2.2.2.2.1 y.2.2.2.2.2.2.2.2.2.2.2.2.2.2.2.1 y.2.2.2.2.2.2.2.2.2.2.2.2.2.2.2.2
theorem obind17_some {α0 α1 α2 α3 α4 α5 α6 α7 α8 α9 α10 α11 α12 α13 α14 α15 α16 β : Type} {x : Option (α0 × α1 × α2 × α3 × α4 × α5 × α6 × α7 × α8 × α9 × α10 × α11 × α12 × α13 × α14 × α15 × α16)} {k : α0 → α1 → α2 → α3 → α4 → α5 → α6 → α7 → α8 → α9 → α10 → α11 → α12 → α13 → α14 → α15 → α16 → Option β} {r : β} (h : obind17 x k = some r) : ∃ a0 a1 a2 a3 a4 a5 a6 a7 a8 a9 a10 a11 a12 a13 a14 a15 a16, x = some (a0, a1, a2, a3, a4, a5, a6, a7, a8, a9, a10, a11, a12, a13, a14, a15, a16) ∧ k a0 a1 a2 a3 a4 a5 a6 a7 a8 a9 a10 a11 a12 a13 a14 a15 a16 = some r := by
  obtain ⟨⟨a0, a1, a2, a3, a4, a5, a6, a7, a8, a9, a10, a11, a12, a13, a14, a15, a16⟩, h1, h2⟩ := Option.bind_eq_some_iff.1 h; exact ⟨a0, a1, a2, a3, a4, a5, a6, a7, a8, a9, a10, a11, a12, a13, a14, a15, a16, h1, h2⟩
@[simp] theorem obind17_eq {α0 α1 α2 α3 α4 α5 α6 α7 α8 α9 α10 α11 α12 α13 α14 α15 α16 β : Type} (a0 : α0) (a1 : α1) (a2 : α2) (a3 : α3) (a4 : α4) (a5 : α5) (a6 : α6) (a7 : α7) (a8 : α8) (a9 : α9) (a10 : α10) (a11 : α11) (a12 : α12) (a13 : α13) (a14 : α14) (a15 : α15) (a16 : α16) (k : α0 → α1 → α2 → α3 → α4 → α5 → α6 → α7 → α8 → α9 → α10 → α11 → α12 → α13 → α14 → α15 → α16 → Option β) : obind17 (some (a0, a1, a2, a3, a4, a5, a6, a7, a8, a9, a10, a11, a12, a13, a14, a15, a16)) k = k a0 a1 a2 a3 a4 a5 a6 a7 a8 a9 a10 a11 a12 a13 a14 a15 a16 := rfl
def obind18 {α0 α1 α2 α3 α4 α5 α6 α7 α8 α9 α10 α11 α12 α13 α14 α15 α16 α17 β : Type} (x : Option (α0 × α1 × α2 × α3 × α4 × α5 × α6 × α7 × α8 × α9 × α10 × α11 × α12 × α13 × α14 × α15 × α16 × α17)) (k : α0 → α1 → α2 → α3 → α4 → α5 → α6 → α7 → α8 → α9 → α10 → α11 → α12 → α13 → α14 → α15 → α16 → α17 → Option β) : Option β := x.bind fun y => k y.1 y.2.1 y.2.2.1 y.2.2.2.1 y.2.2.2.2.1 y.2.2.2.2.2.1 y.2.2.2.2.2.2.1 y.2.2.2.2.2.2.2.1 y.2.2.2.2.2.2.2.2.1 y.2.2.2.2.2.2.2.2.2.1 y.2.2.2.2.2.2.2.2.2.2.1 y.2.2.2.2.2.2.2.2.2.2.2.1 y.2.2.2.2.2.2.2.2.2.2.2.2.1 y.2.2.2.2.2.2.2.2.2.2.2.2.2.1 y.2.2.2.2.2.2.2.2.2.2.2.2.2.2.1 y.2.2.2.2.2.2.2.2.2.2.2.2.2.2.2.1 y.2.2.2.2.2.2.2.2.2.2.2.2.2.2.2.2.1 y.2.2.2.2.2.2.2.2.2.2.2.2.2.2.2.2.2
theorem obind18_some {α0 α1 α2 α3 α4 α5 α6 α7 α8 α9 α10 α11 α12 α13 α14 α15 α16 α17 β : Type} {x : Option (α0 × α1 × α2 × α3 × α4 × α5 × α6 × α7 × α8 × α9 × α10 × α11 × α12 × α13 × α14 × α15 × α16 × α17)} {k : α0 → α1 → α2 → α3 → α4 → α5 → α6 → α7 → α8 → α9 → α10 → α11 → α12 → α13 → α14 → α15 → α16 → α17 → Option β} {r : β} (h : obind18 x k = some r) : ∃ a0 a1 a2 a3 a4 a5 a6 a7 a8 a9 a10 a11 a12 a13 a14 a15 a16 a17, x = some (a0, a1, a2, a3, a4, a5, a6, a7, a8, a9, a10, a11, a12, a13, a14, a15, a16, a17) ∧ k a0 a1 a2 a3 a4 a5 a6 a7 a8 a9 a10 a11 a12 a13 a14 a15 a16 a17 = some r := by
  obtain ⟨⟨a0, a1, a2, a3, a4, a5, a6, a7, a8, a9, a10, a11, a12, a13, a14, a15, a16, a17⟩, h1, h2⟩ := Option.bind_eq_some_iff.1 h; exact ⟨a0, a1, a2, a3, a4, a5, a6, a7, a8, a9, a10, a11, a12, a13, a14, a15, a16, a17, h1, h2⟩
@[simp] theorem obind18_eq {α0 α1 α2 α3 α4 α5 α6 α7 α8 α9 α10 α11 α12 α13 α14 α15 α16 α17 β : Type} (a0 : α0) (a1 : α1) (a2 : α2) (a3 : α3) (a4 : α4) (a5 : α5) (a6 : α6) (a7 : α7) (a8 : α8) (a9 : α9) (a10 : α10) (a11 : α11) (a12 : α12) (a13 : α13) (a14 : α14) (a15 : α15) (a16 : α16) (a17 : α17) (k : α0 → α1 → α2 → α3 → α4 → α5 → α6 → α7 → α8 → α9 → α10 → α11 → α12 → α13 → α14 → α15 → α16 → α17 → Option β) : obind18 (some (a0, a1, a2, a3, a4, a5, a6, a7, a8, a9, a10, a11, a12, a13, a14, a15, a16, a17)) k = k a0 a1 a2 a3 a4 a5 a6 a7 a8 a9 a10 a11 a12 a13 a14 a15 a16 a17 := rfl
def obind19 {α0 α1 α2 α3 α4 α5 α6 α7 α8 α9 α10 α11 α12 α13 α14 α15 α16 α17 α18 β : Type} (x : Option (α0 × α1 × α2 × α3 × α4 × α5 × α6 × α7 × α8 × α9 × α10 × α11 × α12 × α13 × α14 × α15 × α16 × α17 × α18)) (k : α0 → α1 → α2 → α3 → α4 → α5 → α6 → α7 → α8 → α9 → α10 → α11 → α12 → α13 → α14 → α15 → α16 → α17 → α18 → Option β) : Option β := x.bind fun y => k y.1 y.2.1 y.2.2.1 y.2.2.2.1 y.2.2.2.2.1 y.2.2.2.2.2.1 y.2.2.2.2.2.2.1 y.2.2.2.2.2.2.2.1 y.2.2.2.2.2.2.2.2.1 y.2.2.2.2.2.2.2.2.2.1 y.2.2.2.2.2.2.2.2.2.2.1 y.2.2.2.2.2.2.2.2.2.2.2.1 y.2.2.2.2.2.2.2.2.2.2.2.2.1 y.2.2.2.2.2.2.2.2.2.2.2.2.2.1 y.2.2.2.2.2.2.2.2.2.2.2.2.2.2.1 y.2.2.2.2.2.2.2.2.2.2.2.2.2.2.2.1 y.2.2.2.2.2.2.2.2.2.2.2.2.2.2.2.2.1 y.2.2.2.2.2.2.2.2.2.2.2.2.2.2.2.2.2.1 y.2.2.2.2.2.2.2.2.2.2.2.2.2.2.2.2.2.2
theorem obind19_some {α0 α1 α2 α3 α4 α5 α6 α7 α8 α9 α10 α11 α12 α13 α14 α15 α16 α17 α18 β : Type} {x : Option (α0 × α1 × α2 × α3 × α4 × α5 × α6 × α7 × α8 × α9 × α10 × α11 × α12 × α13 × α14 × α15 × α16 × α17 × α18)} {k : α0 → α1 → α2 → α3 → α4 → α5 → α6 → α7 → α8 → α9 → α10 → α11 → α12 → α13 → α14 → α15 → α16 → α17 → α18 → Option β} {r : β} (h : obind19 x k = some r) : ∃ a0 a1 a2 a3 a4 a5 a6 a7 a8 a9 a10 a11 a12 a13 a14 a15 a16 a17 a18, x = some (a0, a1, a2, a3, a4, a5, a6, a7, a8, a9, a10, a11, a12, a13, a14, a15, a16, a17, a18) ∧ k a0 a1 a2 a3 a4 a5 a6 a7 a8 a9 a10 a11 a12 a13 a14 a15 a16 a17 a18 = some r := by
  obtain ⟨⟨a0, a1, a2, a3, a4, a5, a6, a7, a8, a9, a10, a11, a12, a13, a14, a15, a16, a17, a18⟩, h1, h2⟩ := Option.bind_eq_some_iff.1 h; exact ⟨a0, a1, a2, a3, a4, a5, a6, a7, a8, a9, a10, a11, a12, a13, a14, a15, a16, a17, a18, h1, h2⟩
@[simp] theorem obind19_eq {α0 α1 α2 α3 α4 α5 α6 α7 α8 α9 α10 α11 α12 α13 α14 α15 α16 α17 α18 β : Type} (a0 : α0) (a1 : α1) (a2 : α2) (a3 : α3) (a4 : α4) (a5 : α5) (a6 : α6) (a7 : α7) (a8 : α8) (a9 : α9) (a10 : α10) (a11 : α11) (a12 : α12) (a13 : α13) (a14 : α14) (a15 : α15) (a16 : α16) (a17 : α17) (a18 : α18) (k : α0 → α1 → α2 → α3 → α4 → α5 → α6 → α7 → α8 → α9 → α10 → α11 → α12 → α13 → α14 → α15 → α16 → α17 → α18 → Option β) : obind19 (some (a0, a1, a2, a3, a4, a5, a6, a7, a8, a9, a10, a11, a12, a13, a14, a15, a16, a17, a18)) k = k a0 a1 a2 a3 a4 a5 a6 a7 a8 a9 a10 a11 a12 a13 a14 a15 a16 a17 a18 := rfl
def obind20 {α0 α1 α2 α3 α4 α5 α6 α7 α8 α9 α10 α11 α12 α13 α14 α15 α16 α17 α18 α19 β : Type} (x : Option (α0 × α1 × α2 × α3 × α4 × α5 × α6 × α7 × α8 × α9 × α10 × α11 × α12 × α13 × α14 × α15 × α16 × α17 × α18 × α19)) (k : α0 → α1 → α2 → α3 → α4 → α5 → α6 → α7 → α8 → α9 → α10 → α11 → α12 → α13 → α14 → α15 → α16 → α17 → α18 → α19 → Option β) : Option β := x.bind fun y => k y.1 y.2.1 y.2.2.1 y.2.2.2.1 y.2.2.2.2.1 y.2.2.2.2.2.1 y.2.2.2.2.2.2.1 y.2.2.2.2.2.2.2.1 y.2.2.2.2.2.2.2.2.1 y.2.2.2.2.2.2.2.2.2.1 y.2.2.2.2.2.2.2.2.2.2.1 y.2.2.2.2.2.2.2.2.2.2.2.1 y.2.2.2.2.2.2.2.2.2.2.2.2.1 y.2.2.2.2.2.2.2.2.2.2.2.2.2.1 y.2.2.2.2.2.2.2.2.2.2.2.2.2.2.1 y.2.2.2.2.2.2.2.2.2.2.2.2.2.2.2.1 y.2.2.2.2.2.2.2.2.2.2.2.2.2.2.2.2.1 y.2.2.2.2.2.2.2.2.2.2.2.2.2.2.2.2.2.1 y.2.2.2.2.2.2.2.2.2.2.2.2.2.2.2.2.2.2.1 y.2.2.2.2.2.2.2.2.2.2.2.2.2.2.2.2.2.2.2
theorem obind20_some {α0 α1 α2 α3 α4 α5 α6 α7 α8 α9 α10 α11 α12 α13 α14 α15 α16 α17 α18 α19 β : Type} {x : Option (α0 × α1 × α2 × α3 × α4 × α5 × α6 × α7 × α8 × α9 × α10 × α11 × α12 × α13 × α14 × α15 × α16 × α17 × α18 × α19)} {k : α0 → α1 → α2 → α3 → α4 → α5 → α6 → α7 → α8 → α9 → α10 → α11 → α12 → α13 → α14 → α15 → α16 → α17 → α18 → α19 → Option β} {r : β} (h : obind20 x k = some r) : ∃ a0 a1 a2 a3 a4 a5 a6 a7 a8 a9 a10 a11 a12 a13 a14 a15 a16 a17 a18 a19, x = some (a0, a1, a2, a3, a4, a5, a6, a7, a8, a9, a10, a11, a12, a13, a14, a15, a16, a17, a18, a19) ∧ k a0 a1 a2 a3 a4 a5 a6 a7 a8 a9 a10 a11 a12 a13 a14 a15 a16 a17 a18 a19 = some r := by
  obtain ⟨⟨a0, a1, a2, a3, a4, a5, a6, a7, a8, a9, a10, a11, a12, a13, a14, a15, a16, a17, a18, a19⟩, h1, h2⟩ := Option.bind_eq_some_iff.1 h; exact ⟨a0, a1, a2, a3, a4, a5, a6, a7, a8, a9, a10, a11, a12, a13, a14, a15, a16, a17, a18, a19, h1, h2⟩
@[simp] theorem obind20_eq {α0 α1 α2 α3 α4 α5 α6 α7 α8 α9 α10 α11 α12 α13 α14 α15 α16 α17 α18 α19 β : Type} (a0 : α0) (a1 : α1) (a2 : α2) (a3 : α3) (a4 : α4) (a5 : α5) (a6 : α6) (a7 : α7) (a8 : α8) (a9 : α9) (a10 : α10) (a11 : α11) (a12 : α12) (a13 : α13) (a14 : α14) (a15 : α15) (a16 : α16) (a17 : α17) (a18 : α18) (a19 : α19) (k : α0 → α1 → α2 → α3 → α4 → α5 → α6 → α7 → α8 → α9 → α10 → α11 → α12 → α13 → α14 → α15 → α16 → α17 → α18 → α19 → Option β) : obind20 (some (a0, a1, a2, a3, a4, a5, a6, a7, a8, a9, a10, a11, a12, a13, a14, a15, a16, a17, a18, a19)) k = k a0 a1 a2 a3 a4 a5 a6 a7 a8 a9 a10 a11 a12 a13 a14 a15 a16 a17 a18 a19 := rfl
def obind21 {α0 α1 α2 α3 α4 α5 α6 α7 α8 α9 α10 α11 α12 α13 α14 α15 α16 α17 α18 α19 α20 β : Type} (x : Option (α0 × α1 × α2 × α3 × α4 × α5 × α6 × α7 × α8 × α9 × α10 × α11 × α12 × α13 × α14 × α15 × α16 × α17 × α18 × α19 × α20)) (k : α0 → α1 → α2 → α3 → α4 → α5 → α6 → α7 → α8 → α9 → α10 → α11 → α12 → α13 → α14 → α15 → α16 → α17 → α18 → α19 → α20 → Option β) : Option β := x.bind fun y => k y.1 y.2.1 y.2.2.1 y.2.2.2.1 y.2.2.2.2.1 y.2.2.2.2.2.1 y.2.2.2.2.2.2.1 y.2.2.2.2.2.2.2.1 y.2.2.2.2.2.2.2.2.1 y.2.2.2.2.2.2.2.2.2.1 y.2.2.2.2.2.2.2.2.2.2.1 y.2.2.2.2.2.2.2.2.2.2.2.1 y.2.2.2.2.2.2.2.2.2.2.2.2.1 y.2.2.2.2.2.2.2.2.2.2.2.2.2.1 y.2.2.2.2.2.2.2.2.2.2.2.2.2.2.1 y.2.2.2.2.2.2.2.2.2.2.2.2.2.2.2.1 y.2.2.2.2.2.2.2.2.2.2.2.2.2.2.2.2.1 y.2.2.2.2.2.2.2.2.2.2.2.2.2.2.2.2.2.1 y.2.2.2.2.2.2.2.2.2.2.2.2.2.2.2.2.2.2.1 y.2.2.2.2.2.2.2.2.2.2.2.2.2.2.2.2.2.2.2.1 y.2.2.2.2.2.2.2.2.2.2.2.2.2.2.2.2.2.2.2.2
theorem obind21_some {α0 α1 α2 α3 α4 α5 α6 α7 α8 α9 α10 α11 α12 α13 α14 α15 α16 α17 α18 α19 α20 β : Type} {x : Option (α0 × α1 × α2 × α3 × α4 × α5 × α6 × α7 × α8 × α9 × α10 × α11 × α12 × α13 × α14 × α15 × α16 × α17 × α18 × α19 × α20)} {k : α0 → α1 → α2 → α3 → α4 → α5 → α6 → α7 → α8 → α9 → α10 → α11 → α12 → α13 → α14 → α15 → α16 → α17 → α18 → α19 → α20 → Option β} {r : β} (h : obind21 x k = some r) : ∃ a0 a1 a2 a3 a4 a5 a6 a7 a8 a9 a10 a11 a12 a13 a14 a15 a16 a17 a18 a19 a20, x = some (a0, a1, a2, a3, a4, a5, a6, a7, a8, a9, a10, a11, a12, a13, a14, a15, a16, a17, a18, a19, a20) ∧ k a0 a1 a2 a3 a4 a5 a6 a7 a8 a9 a10 a11 a12 a13 a14 a15 a16 a17 a18 a19 a20 = some r := by
  obtain ⟨⟨a0, a1, a2, a3, a4, a5, a6, a7, a8, a9, a10, a11, a12, a13, a14, a15, a16, a17, a18, a19, a20⟩, h1, h2⟩ := Option.bind_eq_some_iff.1 h; exact ⟨a0, a1, a2, a3, a4, a5, a6, a7, a8, a9, a10, a11, a12, a13, a14, a15, a16, a17, a18, a19, a20, h1, h2⟩
@[simp] theorem obind21_eq {α0 α1 α2 α3 α4 α5 α6 α7 α8 α9 α10 α11 α12 α13 α14 α15 α16 α17 α18 α19 α20 β : Type} (a0 : α0) (a1 : α1) (a2 : α2) (a3 : α3) (a4 : α4) (a5 : α5) (a6 : α6) (a7 : α7) (a8 : α8) (a9 : α9) (a10 : α10) (a11 : α11) (a12 : α12) (a13 : α13) (a14 : α14) (a15 : α15) (a16 : α16) (a17 : α17) (a18 : α18) (a19 : α19) (a20 : α20) (k : α0 → α1 → α2 → α3 → α4 → α5 → α6 → α7 → α8 → α9 → α10 → α11 → α12 → α13 → α14 → α15 → α16 → α17 → α18 → α19 → α20 → Option β) : obind21 (some (a0, a1, a2, a3, a4, a5, a6, a7, a8, a9, a10, a11, a12, a13, a14, a15, a16, a17, a18, a19, a20)) k = k a0 a1 a2 a3 a4 a5 a6 a7 a8 a9 a10 a11 a12 a13 a14 a15 a16 a17 a18 a19 a20 := rfl
def obind22 {α0 α1 α2 α3 α4 α5 α6 α7 α8 α9 α10 α11 α12 α13 α14 α15 α16 α17 α18 α19 α20 α21 β : Type} (x : Option (α0 × α1 × α2 × α3 × α4 × α5 × α6 × α7 × α8 × α9 × α10 × α11 × α12 × α13 × α14 × α15 × α16 × α17 × α18 × α19 × α20 × α21)) (k : α0 → α1 → α2 → α3 → α4 → α5 → α6 → α7 → α8 → α9 → α10 → α11 → α12 → α13 → α14 → α15 → α16 → α17 → α18 → α19 → α20 → α21 → Option β) : Option β := x.bind fun y => k y.1 y.2.1 y.2.2.1 y.2.2.2.1 y.2.2.2.2.1 y.2.2.2.2.2.1 y.2.2.2.2.2.2.1 y.2.2.2.2.2.2.2.1 y.2.2.2.2.2.2.2.2.1 y.2.2.2.2.2.2.2.2.2.1 y.2.2.2.2.2.2.2.2.2.2.1 y.2.2.2.2.2.2.2.2.2.2.2.1 y.2.2.2.2.2.2.2.2.2.2.2.2.1 y.2.2.2.2.2.2.2.2.2.2.2.2.2.1 y.2.2.2.2.2.2.2.2.2.2.2.2.2.2.1 y.2.2.2.2.2.2.2.2.2.2.2.2.2.2.2.1 y.2.2.2.2.2.2.2.2.2.2.2.2.2.2.2.2.1 y.2.2.2.2.2.2.2.2.2.2.2.2.2.2.2.2.2.1 y.2.2.2.2.2.2.2.2.2.2.2.2.2.2.2.2.2.2.1 y.2.2.2.2.2.2.2.2.2.2.2.2.2.2.2.2.2.2.2.1 y.2.2.2.2.2.2.2.2.2.2.2.2.2.2.2.2.2.2.2.2.1 y.2.2.2.2.2.2.2.2.2.2.2.2.2.2.2.2.2.2.2.2.2
theorem obind22_some {α0 α1 α2 α3 α4 α5 α6 α7 α8 α9 α10 α11 α12 α13 α14 α15 α16 α17 α18 α19 α20 α21 β : Type} {x : Option (α0 × α1 × α2 × α3 × α4 × α5 × α6 × α7 × α8 × α9 × α10 × α11 × α12 × α13 × α14 × α15 × α16 × α17 × α18 × α19 × α20 × α21)} {k : α0 → α1 → α2 → α3 → α4 → α5 → α6 → α7 → α8 → α9 → α10 → α11 → α12 → α13 → α14 → α15 → α16 → α17 → α18 → α19 → α20 → α21 → Option β} {r : β} (h : obind22 x k = some r) : ∃ a0 a1 a2 a3 a4 a5 a6 a7 a8 a9 a10 a11 a12 a13 a14 a15 a16 a17 a18 a19 a20 a21, x = some (a0, a1, a2, a3, a4, a5, a6, a7, a8, a9, a10, a11, a12, a13, a14, a15, a16, a17, a18, a19, a20, a21) ∧ k a0 a1 a2 a3 a4 a5 a6 a7 a8 a9 a10 a11 a12 a13 a14 a15 a16 a17 a18 a19 a20 a21 = some r := by
  obtain ⟨⟨a0, a1, a2, a3, a4, a5, a6, a7, a8, a9, a10, a11, a12, a13, a14, a15, a16, a17, a18, a19, a20, a21⟩, h1, h2⟩ := Option.bind_eq_some_iff.1 h; exact ⟨a0, a1, a2, a3, a4, a5, a6, a7, a8, a9, a10, a11, a12, a13, a14, a15, a16, a17, a18, a19, a20, a21, h1, h2⟩
@[simp] theorem obind22_eq {α0 α1 α2 α3 α4 α5 α6 α7 α8 α9 α10 α11 α12 α13 α14 α15 α16 α17 α18 α19 α20 α21 β : Type} (a0 : α0) (a1 : α1) (a2 : α2) (a3 : α3) (a4 : α4) (a5 : α5) (a6 : α6) (a7 : α7) (a8 : α8) (a9 : α9) (a10 : α10) (a11 : α11) (a12 : α12) (a13 : α13) (a14 : α14) (a15 : α15) (a16 : α16) (a17 : α17) (a18 : α18) (a19 : α19) (a20 : α20) (a21 : α21) (k : α0 → α1 → α2 → α3 → α4 → α5 → α6 → α7 → α8 → α9 → α10 → α11 → α12 → α13 → α14 → α15 → α16 → α17 → α18 → α19 → α20 → α21 → Option β) : obind22 (some (a0, a1, a2, a3, a4, a5, a6, a7, a8, a9, a10, a11, a12, a13, a14, a15, a16, a17, a18, a19, a20, a21)) k = k a0 a1 a2 a3 a4 a5 a6 a7 a8 a9 a10 a11 a12 a13 a14 a15 a16 a17 a18 a19 a20 a21 := rfl
def obind23 {α0 α1 α2 α3 α4 α5 α6 α7 α8 α9 α10 α11 α12 α13 α14 α15 α16 α17 α18 α19 α20 α21 α22 β : Type} (x : Option (α0 × α1 × α2 × α3 × α4 × α5 × α6 × α7 × α8 × α9 × α10 × α11 × α12 × α13 × α14 × α15 × α16 × α17 × α18 × α19 × α20 × α21 × α22)) (k : α0 → α1 → α2 → α3 → α4 → α5 → α6 → α7 → α8 → α9 → α10 → α11 → α12 → α13 → α14 → α15 → α16 → α17 → α18 → α19 → α20 → α21 → α22 → Option β) : Option β := x.bind fun y => k y.1 y.2.1 y.2.2.1 y.2.2.2.1 y.2.2.2.2.1 y.2.2.2.2.2.1 y.2.2.2.2.2.2.1 y.2.2.2.2.2.2.2.1 y.2.2.2.2.2.2.2.2.1 y.2.2.2.2.2.2.2.2.2.1 y.2.2.2.2.2.2.2.2.2.2.1 y.2.2.2.2.2.2.2.2.2.2.2.1 y.2.2.2.2.2.2.2.2.2.2.2.2.1 y.2.2.2.2.2.2.2.2.2.2.2.2.2.1 y.2.2.2.2.2.2.2.2.2.2.2.2.2.2.1 y.2.2.2.2.2.2.2.2.2.2.2.2.2.2.2.1 y.2.2.2.2.2.2.2.2.2.2.2.2.2.2.2.2.1 y.2.2.2.2.2.2.2.2.2.2.2.2.2.2.2.2.2.1 y.2.2.2.2.2.2.2.2.2.2.2.2.2.2.2.2.2.2.1 y.2.2.2.2.2.2.2.2.2.2.2.2.2.2.2.2.2.2.2.1 y.2.2.2.2.2.2.2.2.2.2.2.2.2.2.2.2.2.2.2.2.1 y.2.2.2.2.2.2.2.2.2.2.2.2.2.2.2.2.2.2.2.2.2.1 y.2.2.2.2.2.2.2.2.2.2.2.2.2.2.2.2.2.2.2.2.2.2
theorem obind23_some {α0 α1 α2 α3 α4 α5 α6 α7 α8 α9 α10 α11 α12 α13 α14 α15 α16 α17 α18 α19 α20 α21 α22 β : Type} {x : Option (α0 × α1 × α2 × α3 × α4 × α5 × α6 × α7 × α8 × α9 × α10 × α11 × α12 × α13 × α14 × α15 × α16 × α17 × α18 × α19 × α20 × α21 × α22)} {k : α0 → α1 → α2 → α3 → α4 → α5 → α6 → α7 → α8 → α9 → α10 → α11 → α12 → α13 → α14 → α15 → α16 → α17 → α18 → α19 → α20 → α21 → α22 → Option β} {r : β} (h : obind23 x k = some r) : ∃ a0 a1 a2 a3 a4 a5 a6 a7 a8 a9 a10 a11 a12 a13 a14 a15 a16 a17 a18 a19 a20 a21 a22, x = some (a0, a1, a2, a3, a4, a5, a6, a7, a8, a9, a10, a11, a12, a13, a14, a15, a16, a17, a18, a19, a20, a21, a22) ∧ k a0 a1 a2 a3 a4 a5 a6 a7 a8 a9 a10 a11 a12 a13 a14 a15 a16 a17 a18 a19 a20 a21 a22 = some r := by
  obtain ⟨⟨a0, a1, a2, a3, a4, a5, a6, a7, a8, a9, a10, a11, a12, a13, a14, a15, a16, a17, a18, a19, a20, a21, a22⟩, h1, h2⟩ := Option.bind_eq_some_iff.1 h; exact ⟨a0, a1, a2, a3, a4, a5, a6, a7, a8, a9, a10, a11, a12, a13, a14, a15, a16, a17, a18, a19, a20, a21, a22, h1, h2⟩
@[simp] theorem obind23_eq {α0 α1 α2 α3 α4 α5 α6 α7 α8 α9 α10 α11 α12 α13 α14 α15 α16 α17 α18 α19 α20 α21 α22 β : Type} (a0 : α0) (a1 : α1) (a2 : α2) (a3 : α3) (a4 : α4) (a5 : α5) (a6 : α6) (a7 : α7) (a8 : α8) (a9 : α9) (a10 : α10) (a11 : α11) (a12 : α12) (a13 : α13) (a14 : α14) (a15 : α15) (a16 : α16) (a17 : α17) (a18 : α18) (a19 : α19) (a20 : α20) (a21 : α21) (a22 : α22) (k : α0 → α1 → α2 → α3 → α4 → α5 → α6 → α7 → α8 → α9 → α10 → α11 → α12 → α13 → α14 → α15 → α16 → α17 → α18 → α19 → α20 → α21 → α22 → Option β) : obind23 (some (a0, a1, a2, a3, a4, a5, a6, a7, a8, a9, a10, a11, a12, a13, a14, a15, a16, a17, a18, a19, a20, a21, a22)) k = k a0 a1 a2 a3 a4 a5 a6 a7 a8 a9 a10 a11 a12 a13 a14 a15 a16 a17 a18 a19 a20 a21 a22 := rfl
def obind24 {α0 α1 α2 α3 α4 α5 α6 α7 α8 α9 α10 α11 α12 α13 α14 α15 α16 α17 α18 α19 α20 α21 α22 α23 β : Type} (x : Option (α0 × α1 × α2 × α3 × α4 × α5 × α6 × α7 × α8 × α9 × α10 × α11 × α12 × α13 × α14 × α15 × α16 × α17 × α18 × α19 × α20 × α21 × α22 × α23)) (k : α0 → α1 → α2 → α3 → α4 → α5 → α6 → α7 → α8 → α9 → α10 → α11 → α12 → α13 → α14 → α15 → α16 → α17 → α18 → α19 → α20 → α21 → α22 → α23 → Option β) : Option β := x.bind fun y => k y.1 y.2.1 y.2.2.1 y.2.2.2.1 y.2.2.2.2.1 y.2.2.2.2.2.1 y.2.2.2.2.2.2.1 y.2.2.2.2.2.2.2.1 y.2.2.2.2.2.2.2.2.1 y.2.2.2.2.2.2.2.2.2.1 y.2.2.2.2.2.2.2.2.2.2.1 y.2.2.2.2.2.2.2.2.2.2.2.1 y.2.2.2.2.2.2.2.2.2.2.2.2.1 y.2.2.2.2.2.2.2.2.2.2.2.2.2.1 y.2.2.2.2.2.2.2.2.2.2.2.2.2.2.1 y.2.2.2.2.2.2.2.2.2.2.2.2.2.2.2.1 y.2.2.2.2.2.2.2.2.2.2.2.2.2.2.2.2.1 y.2.2.2.2.2.2.2.2.2.2.2.2.2.2.2.2.2.1 y.2.2.2.2.2.2.2.2.2.2.2.2.2.2.2.2.2.2.1 y.2.2.2.2.2.2.2.2.2.2.2.2.2.2.2.2.2.2.2.1 y.2.2.2.2.2.2.2.2.2.2.2.2.2.2.2.2.2.2.2.2.1 y.2.2.2.2.2.2.2.2.2.2.2.2.2.2.2.2.2.2.2.2.2.1 y.2.2.2.2.2.2.2.2.2.2.2.2.2.2.2.2.2.2.2.2.2.2.1 y.2.2.2.2.2.2.2.2.2.2.2.2.2.2.2.2.2.2.2.2.2.2.2
theorem obind24_some {α0 α1 α2 α3 α4 α5 α6 α7 α8 α9 α10 α11 α12 α13 α14 α15 α16 α17 α18 α19 α20 α21 α22 α23 β : Type} {x : Option (α0 × α1 × α2 × α3 × α4 × α5 × α6 × α7 × α8 × α9 × α10 × α11 × α12 × α13 × α14 × α15 × α16 × α17 × α18 × α19 × α20 × α21 × α22 × α23)} {k : α0 → α1 → α2 → α3 → α4 → α5 → α6 → α7 → α8 → α9 → α10 → α11 → α12 → α13 → α14 → α15 → α16 → α17 → α18 → α19 → α20 → α21 → α22 → α23 → Option β} {r : β} (h : obind24 x k = some r) : ∃ a0 a1 a2 a3 a4 a5 a6 a7 a8 a9 a10 a11 a12 a13 a14 a15 a16 a17 a18 a19 a20 a21 a22 a23, x = some (a0, a1, a2, a3, a4, a5, a6, a7, a8, a9, a10, a11, a12, a13, a14, a15, a16, a17, a18, a19, a20, a21, a22, a23) ∧ k a0 a1 a2 a3 a4 a5 a6 a7 a8 a9 a10 a11 a12 a13 a14 a15 a16 a17 a18 a19 a20 a21 a22 a23 = some r := by
  obtain ⟨⟨a0, a1, a2, a3, a4, a5, a6, a7, a8, a9, a10, a11, a12, a13, a14, a15, a16, a17, a18, a19, a20, a21, a22, a23⟩, h1, h2⟩ := Option.bind_eq_some_iff.1 h; exact ⟨a0, a1, a2, a3, a4, a5, a6, a7, a8, a9, a10, a11, a12, a13, a14, a15, a16, a17, a18, a19, a20, a21, a22, a23, h1, h2⟩
@[simp] theorem obind24_eq {α0 α1 α2 α3 α4 α5 α6 α7 α8 α9 α10 α11 α12 α13 α14 α15 α16 α17 α18 α19 α20 α21 α22 α23 β : Type} (a0 : α0) (a1 : α1) (a2 : α2) (a3 : α3) (a4 : α4) (a5 : α5) (a6 : α6) (a7 : α7) (a8 : α8) (a9 : α9) (a10 : α10) (a11 : α11) (a12 : α12) (a13 : α13) (a14 : α14) (a15 : α15) (a16 : α16) (a17 : α17) (a18 : α18) (a19 : α19) (a20 : α20) (a21 : α21) (a22 : α22) (a23 : α23) (k : α0 → α1 → α2 → α3 → α4 → α5 → α6 → α7 → α8 → α9 → α10 → α11 → α12 → α13 → α14 → α15 → α16 → α17 → α18 → α19 → α20 → α21 → α22 → α23 → Option β) : obind24 (some (a0, a1, a2, a3, a4, a5, a6, a7, a8, a9, a10, a11, a12, a13, a14, a15, a16, a17, a18, a19, a20, a21, a22, a23)) k = k a0 a1 a2 a3 a4 a5 a6 a7 a8 a9 a10 a11 a12 a13 a14 a15 a16 a17 a18 a19 a20 a21 a22 a23 := rfl
end Go.AM

/- The abstract layer, more operations: floats narrowed, roots, parts of slices, own structs handed over. -/
namespace Go.AM
section
variable {P : Program} {N : Nat} {o : Oper} {τ : List (Nat × AV)} {Γ : List Ob} {Q : PQ}

theorem SelL.cells0 {sel0 sel : List (Nat × Nat)} {p s : Nat} {l l' : List AV} {Γ' : List Ob} (hp : Γ[p]? = some ⟨s, some l'⟩) (hr : AV.rens (sigma sel0) l = l') (hl : AV.lts sel0.length l = true) (h : SelL Γ sel0 sel Γ') : SelL Γ sel0 ((p, s) :: sel) (⟨0, some l⟩ :: Γ') :=
  SelL.cells (hp.trans (by rw [Nat.zero_add])) hr hl h
theorem lt_slk {α : Type} {f : α → AV} (hf : ∀ x, (f x).lt 0 = true) {k n : Nat} {l : List α} : (AV.sl n (l.map f)).lt k = true := by simp only [AV.lt, lts_map hf]

/-- A double-precision number narrowed; nothing is said where a finite number grows past all that single precision has. -/
def fnarrow : F → Option F
  | none => some none
  | some b => match FloatKind.f64.decode b with
    | .nan _ _ => some none
    | .infinity s => some (some (FloatKind.f32.encode (.infinity s)))
    | .number s m e => if (FloatKind.f32.decode (FloatKind.f32.encode (.number s m e))).isInfinity then none else some (some (FloatKind.f32.encode (.number s m e)))
theorem run_narrow {b : Nat} {c y : F} (h : FR .f64 b c) (hy : fnarrow c = some y) (w : World) : ∃ r w', (Conv.floatToFloat .f64 b .f32).run P w = .ok (.float .f32 r) w' ∧ FR .f32 r y ∧ Grow w w' := by
  have hd : ¬ FloatKind.f64 = FloatKind.f32 := by decide
  cases c with
  | none =>
    obtain ⟨h1, h2⟩ := h
    have h2' : (FloatKind.f64.decode b).isNaN = true := h2
    have hy' := Option.some.inj hy
    subst hy'
    cases hdec : FloatKind.f64.decode b with
    | number s m e => rw [hdec] at h2'; cases h2'
    | infinity s => rw [hdec] at h2'; cases h2'
    | nan s t =>
      refine ⟨_, { w with drawn := w.drawn + 1 }, ?_, nan_cut_conv b (w.tape w.drawn (.nanConv .f32 b)), ⟨Nat.le_refl _, fun _ _ => rfl, rfl, rfl, rfl⟩⟩
      simp [Conv.floatToFloat, hdec, Question.forced]
  | some c =>
    obtain ⟨rfl, h1, h2⟩ := h
    have h2' : (FloatKind.f64.decode b).isNaN = false := h2
    unfold fnarrow at hy
    simp only at hy
    cases hdec : FloatKind.f64.decode b with
    | number s m e =>
      rw [hdec] at hy
      simp only at hy
      split at hy
      · cases hy
      · rename_i hi
        cases hy
        refine ⟨FloatKind.f32.encode (.number s m e), w, ?_, encode_FR .f32 rfl, Grow.refl w⟩
        simp only [Bool.not_eq_true] at hi
        simp [Conv.floatToFloat, hdec, hi]
    | infinity s =>
      rw [hdec] at hy
      simp only at hy
      cases hy
      refine ⟨FloatKind.f32.encode (.infinity s), w, ?_, encode_FR .f32 rfl, Grow.refl w⟩
      simp [Conv.floatToFloat, hdec]
    | nan s t => rw [hdec] at h2'; cases h2'
theorem TOp.narrow {src dst : TypeId} {x : Operand} {c y : F} (hs : ∃ d, P.underlying src = some d) (hd : P.underlying dst = some (.float .f32)) (ho : o.op = .convert src dst x) (hx : OpF τ x .f64 c) (hy : fnarrow c = some y) : TOp P o τ Γ (.f32 y) [] := by
  intro S μ Γ2 a w _ _ hw h next Q hn
  obtain ⟨d, hs⟩ := hs
  obtain ⟨b, e1, f1⟩ := hx S μ a (h x (by simp [ho, Op.operands]))
  obtain ⟨r, w', hrun, hr, hg⟩ := run_narrow (P := P) f1 hy w
  unfold Oper.wp
  have : (execOp a.eval o).run P w = .ok (.value (.float .f32 r)) w' := by
    cases d <;> simp [execOp, ho, e1, convert, run_underlying hs, run_underlying hd, hrun]
  rw [this]
  exact hn S μ _ w' (SExt.refl S) (SFresh.refl _ S) (MuStep.refl _ _ _) (hw.grow hg) (by simp only [V]; exact ⟨r, rfl, hr⟩) hg

/-- A part of a list. -/
def sub? {α : Type} (l : List α) (lo hi : Int) : Option (List α) := if 0 ≤ lo ∧ lo ≤ hi ∧ hi ≤ l.length then some ((l.take hi.toNat).drop lo.toNat) else none
theorem sub?_spec {α : Type} {l r : List α} {lo hi : Int} (h : sub? l lo hi = some r) : 0 ≤ lo ∧ lo ≤ hi ∧ hi ≤ l.length ∧ r = (l.take hi.toNat).drop lo.toNat := by
  unfold sub? at h
  split at h
  · rename_i k; exact ⟨k.1, k.2.1, k.2.2, (Option.some.inj h).symm⟩
  · cases h
theorem sub?_len {α : Type} {l r : List α} {lo hi : Int} (h : sub? l lo hi = some r) : (r.length : Int) = hi - lo := by
  obtain ⟨h0, h1, h2, rfl⟩ := sub?_spec h
  simp only [List.length_drop, List.length_take]; omega
theorem V.sub {S : Snap} {μ : List Mu} {α : Type} {f : α → AV} {l r : List α} {lo hi : Int} {a : Option Addr} {cap : Nat} (h : V S μ (.sl l.length (l.map f)) (.slice a l.length cap)) (hs : sub? l lo hi = some r) (hc : l.length ≤ cap) :
    V S μ (.sl r.length (r.map f)) (.slice (if cap = lo.toNat then a else a.map (·.add (lo.toNat * 1))) (hi.toNat - lo.toNat) (cap - lo.toNat)) := by
  have hl := sub?_len hs
  obtain ⟨h0, h1, h2, hr⟩ := sub?_spec hs
  simp only [V] at h ⊢
  obtain ⟨a', cap', e, k2, k3⟩ := h
  cases e
  refine ⟨_, _, by rw [show hi.toNat - lo.toNat = r.length by omega], by omega, ?_⟩
  rcases k3 with k3 | ⟨b, off, cs, rfl, k4, k5⟩
  · left; have : l = [] := by simpa using k3
    subst this; subst hr; simp
  · by_cases he : r = []
    · left; rw [he]; rfl
    · right
      have hpos : 0 < r.length := List.length_pos_iff.2 he
      refine ⟨b, off + lo.toNat, cs, ?_, k4, ?_⟩
      · rw [if_neg (by omega)]; simp [Addr.add]
      · rw [hr, List.map_drop, List.map_take]
        have := (k5.take hi.toNat).drop lo.toNat
        rwa [List.drop_drop] at this
theorem LOp.slice_sl {α : Type} {f : α → AV} {l r : List α} {t e : TypeId} {x : Operand} {lo hi : Operand} {k k' : IntKind} {i j : Int} {n : Nat} (ht : ∀ w, (underlying t).run P w = .ok (.slice e) w) (he : ∀ w, (sizeOf e).run P w = .ok 1 w)
    (ho : o.op = .slice t x (some lo) (some hi) none) (hx : ev τ x = .sl n (l.map f)) (hn : l.length = n) (hlo : ev τ lo = .x (.int k i)) (hhi : ev τ hi = .x (.int k' j)) (hs : sub? l i j = some r) : LOp P o τ (.sl r.length (r.map f)) := by
  subst hn
  intro S μ a h
  have k1 := opnd h (x := x) (by simp [ho, Op.operands]) hx
  have k2 := opnd h (x := lo) (by simp [ho, Op.operands]) hlo
  have k3 := opnd h (x := hi) (by simp [ho, Op.operands]) hhi
  obtain ⟨h0, h1, h2, _⟩ := sub?_spec hs
  have k1' := k1
  simp only [V] at k1' k2 k3
  obtain ⟨ad, cap, k4, k5, _⟩ := k1'
  rw [k4] at k1
  refine ⟨_, fun w _ => ?_, V.sub k1 hs k5⟩
  simp [execOp, ho, k2, k3, k4, Instr.sliceAt, Instr.slice, Instr.sliceBounds, Instr.sliceBound, asIntOf, ht, he, h0, show (0:Int) ≤ j from by omega, show j ≤ (cap : Int) from by omega]
  intro hh; omega
theorem LOp.slice_hi {α : Type} {f : α → AV} {l r : List α} {t e : TypeId} {x : Operand} {hi : Operand} {k' : IntKind} {j : Int} {n : Nat} (ht : ∀ w, (underlying t).run P w = .ok (.slice e) w) (he : ∀ w, (sizeOf e).run P w = .ok 1 w)
    (ho : o.op = .slice t x none (some hi) none) (hx : ev τ x = .sl n (l.map f)) (hn : l.length = n) (hhi : ev τ hi = .x (.int k' j)) (hs : sub? l 0 j = some r) : LOp P o τ (.sl r.length (r.map f)) := by
  subst hn
  intro S μ a h
  have k1 := opnd h (x := x) (by simp [ho, Op.operands]) hx
  have k3 := opnd h (x := hi) (by simp [ho, Op.operands]) hhi
  obtain ⟨h0, h1, h2, _⟩ := sub?_spec hs
  have k1' := k1
  simp only [V] at k1' k3
  obtain ⟨ad, cap, k4, k5, _⟩ := k1'
  rw [k4] at k1
  refine ⟨_, fun w _ => ?_, V.sub k1 hs k5⟩
  simp [execOp, ho, k3, k4, Instr.sliceAt, Instr.slice, Instr.sliceBounds, Instr.sliceBound, asIntOf, ht, he, h1, show j ≤ (cap : Int) from by omega]
theorem LOp.slice_lo {α : Type} {f : α → AV} {l r : List α} {t e : TypeId} {x : Operand} {lo : Operand} {k : IntKind} {i : Int} {n : Nat} (ht : ∀ w, (underlying t).run P w = .ok (.slice e) w) (he : ∀ w, (sizeOf e).run P w = .ok 1 w)
    (ho : o.op = .slice t x (some lo) none none) (hx : ev τ x = .sl n (l.map f)) (hn : l.length = n) (hlo : ev τ lo = .x (.int k i)) (hs : sub? l i (l.length : Int) = some r) : LOp P o τ (.sl r.length (r.map f)) := by
  subst hn
  intro S μ a h
  have k1 := opnd h (x := x) (by simp [ho, Op.operands]) hx
  have k2 := opnd h (x := lo) (by simp [ho, Op.operands]) hlo
  obtain ⟨h0, h1, h2, _⟩ := sub?_spec hs
  have k1' := k1
  simp only [V] at k1' k2
  obtain ⟨ad, cap, k4, k5, _⟩ := k1'
  rw [k4] at k1
  refine ⟨_, fun w _ => ?_, V.sub k1 hs k5⟩
  simp [execOp, ho, k2, k4, Instr.sliceAt, Instr.slice, Instr.sliceBounds, Instr.sliceBound, asIntOf, ht, he, h0, h1]

/-- A root. -/
def fsqrt (x : F) : F := x.bind fun b => FloatKind.f64.format.sqrt b
theorem root_notNaN {n : Nat} {d r : Ieee.Datum} (h : d.root n = some r) : r.isNaN = false := by
  cases d with
  | nan s t => simp [Ieee.Datum.root] at h
  | infinity s =>
    simp only [Ieee.Datum.root] at h
    split at h <;> simp at h
    subst h; rfl
  | number s m i =>
    simp only [Ieee.Datum.root] at h
    split at h
    · simp at h; subst h; rfl
    · split at h <;> simp at h
      subst h; rfl
theorem sqrt_FR {b c : Nat} (h : FloatKind.f64.format.sqrt b = some c) : FR .f64 c (some c) := by
  unfold Ieee.Format.sqrt at h
  obtain ⟨d, h1, h2⟩ := Option.map_eq_some_iff.1 h
  subst h2
  exact encode_FR .f64 (root_notNaN h1)
theorem sqrt_nan {b : Nat} (h : (FloatKind.f64.format.read b).isNaN = true) : FloatKind.f64.format.sqrt b = none := by
  unfold Ieee.Format.sqrt
  cases hd : FloatKind.f64.format.read b with
  | number s m e => rw [hd] at h; cases h
  | infinity s => rw [hd] at h; cases h
  | nan s t => rfl
theorem TOp.fsqrt {f : FuncId} {x : Operand} {tys : Array TypeId} {c : F} (hc : ∀ (b : Nat) w, (callFunc f #[.float .f64 b]).run P w = (do pure (Next.value (← Extern.MathSqrt.sqrt #[.float .f64 b])) : Sem Next).run P w) (ho : o.op = .call { callee := .value (.func f), args := #[x], argTypes := tys }) (hx : OpF τ x .f64 c) : TOp P o τ Γ (.f64 (fsqrt c)) [] := by
  intro S μ Γ2 a w _ _ hw h next Q hn
  obtain ⟨b, e1, f1⟩ := hx S μ a (h x (by simp [ho, Op.operands, Call.operands]))
  have hfe : a.eval (.func f) = .func (.func f) #[] #[] := rfl
  have hex : (execOp a.eval o).run P w = (do pure (Next.value (← Extern.MathSqrt.sqrt #[.float .f64 b])) : Sem Next).run P w := by
    rw [← hc]
    simp [execOp, ho, resolve, hfe, e1, Deferred.ofValue, invoke]
  have key : ∃ r w', (do pure (Next.value (← Extern.MathSqrt.sqrt #[.float .f64 b])) : Sem Next).run P w = .ok (.value (.float .f64 r)) w' ∧ FR .f64 r (AM.fsqrt c) ∧ Grow w w' := by
    have hsq : Extern.MathSqrt.sqrt #[.float .f64 b] = (match FloatKind.f64.format.sqrt b with | some r => pure (.float .f64 r) | none => do pure (.float .f64 (← choose (.nanBits .f64 b b)))) := rfl
    rw [hsq]
    cases hs : FloatKind.f64.format.sqrt b with
    | some r =>
      refine ⟨r, w, by simp, ?_, Grow.refl w⟩
      cases c with
      | none => rw [sqrt_nan f1.2] at hs; cases hs
      | some c =>
        obtain ⟨rfl, _⟩ := f1
        show FR .f64 r (FloatKind.f64.format.sqrt b)
        rw [hs]; exact sqrt_FR hs
    | none =>
      refine ⟨_, { w with drawn := w.drawn + 1 }, by simp [Question.forced]; rfl, ?_, ⟨Nat.le_refl _, fun _ _ => rfl, rfl, rfl, rfl⟩⟩
      have : AM.fsqrt c = none := by
        cases c with
        | none => rfl
        | some c => obtain ⟨rfl, _⟩ := f1; exact hs
      rw [this]
      exact nan_cut b b _
  obtain ⟨r, w', hrun, hr, hg⟩ := key
  unfold Oper.wp
  rw [hex, hrun]
  exact hn S μ _ w' (SExt.refl S) (SFresh.refl _ S) (MuStep.refl _ _ _) (hw.grow hg) (by simp only [V]; exact ⟨r, rfl, hr⟩) hg

/-! ends of bodies -/
theorem WeakLe.trans {τ τ' : List (Nat × AV)} (h : WeakLe τ τ') : ∀ {τ'' : List (Nat × AV)}, WeakLe τ' τ'' → WeakLe τ τ''
  | [], _ => trivial
  | (_, _) :: _, k => ⟨fun S μ v hv => k.1 S μ v (WeakLe.look hv h), WeakLe.trans h k.2⟩
theorem DeadLe.trans : ∀ {Γ Γ' Γ'' : List Ob}, DeadLe Γ Γ' → DeadLe Γ' Γ'' → DeadLe Γ Γ''
  | [], [], [], _, _ => trivial
  | g :: l, g' :: l', g'' :: l'', h, k => ⟨⟨k.1.1.trans h.1.1, by
      rcases k.1.2 with e | e
      · exact .inl e
      · rw [e]; exact h.1.2⟩, DeadLe.trans h.2 k.2⟩
  | [], [], _ :: _, _, k => k.elim
  | [], _ :: _, _, h, _ => h.elim
  | _ :: _, [], _, h, _ => h.elim
  | _ :: _, _ :: _, [], _, k => k.elim
theorem bodyQ.wl {fn : Func} {e : Exit} {k : Nat} {r : AV} {Γo : List Ob} {τ' : List (Nat × AV)} {Γ' : List Ob} (hw : WeakLe τ τ') (hd : DeadLe Γ Γ') (h : bodyQ P fn k r Γo e τ' Γ') : bodyQ P fn k r Γo e τ Γ := by
  obtain ⟨he, sel, hk, hid, hres, hlt, hl, hn, hs⟩ := h
  refine ⟨he, sel, hk, hid, fun S μ a w h1 h2 => hres S μ a w (h1.dead hd) fun t => WeakLe.look (h2 t) hw, hlt, hl, hn, fun i g' hg => ?_⟩
  obtain ⟨g, k1, k2, k3⟩ := hs i g' hg
  obtain ⟨g0, j1, j2, j3⟩ := hd.at k1
  refine ⟨g0, j1, j2.symm.trans k2, fun l hl' => ⟨(k3 l hl').1, ?_⟩⟩
  have := (k3 l hl').2
  rcases j3 with e | e
  · rw [e] at this; cases this
  · rw [← e]; exact this
end
end Go.AM

/- The abstract layer: regions whose order is drawn, all their orders walked. -/
namespace Go.AM
section
variable {P : Program} {N : Nat} {o : Oper} {τ : List (Nat × AV)} {Γ : List Ob} {Q : PQ}

theorem wp_monoQ {a : Act} {w : World} {K : Act → World → Prop} {Q Q' : Exit → Act → World → Prop} (h : ∀ c a w, Q (.panic c) a w → Q' (.panic c) a w) (hl : LetsOut Q → LetsOut Q') (hh : o.wp P a w K Q) : o.wp P a w K Q' := by
  unfold Oper.wp at *
  generalize (execOp a.eval o).run P w = r at *
  cases r with
  | ok n w' =>
    cases n <;> simp only [Oper.upon] at hh ⊢ <;>
      first
        | exact hh
        | exact Calls.mono hh (fun e w'' he => by cases e <;> first | exact h _ _ _ he | exact hl he | exact he)
  | halt x w' => cases x <;> simp only [Oper.upon] at hh ⊢ <;> first | exact h _ _ _ hh | exact hh

/-- What is left of a region whose order is drawn. -/
def RAny (P : Program) (N : Nat) (all : Array Oper) (fuel : Nat) (listed : Array Bool) (τ : List (Nat × AV)) (Γ : List Ob) (Q : PQ) : Prop :=
  ∀ S0 μ0 w0 S μ a w, Inv S0 μ0 w0 N S μ τ Γ a w → wpAnyH P .any all (Post S0 μ0 w0 N (np Q)) (fun _ => True) fuel listed a w
theorem RunC.any {id n : Nat} {l : List Oper} (hn : l.length = n) (hm : P.follows .mixedOrders = true) (h : RAny P N l.toArray n (Array.replicate n false) τ Γ Q) : RunC P N (.region id l.toArray true) τ Γ Q := by
  subst hn
  intro S0 μ0 w0 S μ a w hi
  have hg : Grow w { w with drawn := w.drawn + 1 } := ⟨Nat.le_refl _, fun _ _ => rfl, rfl, rfl, rfl⟩
  have key := h S0 μ0 w0 S μ a { w with drawn := w.drawn + 1 } ⟨hi.fr.grow (fs := []) (SExt.refl S) (SFresh.refl _ S) (MuStep.refl _ _ _) hg, ⟨hi.wi.snap, hi.wi.len, hi.wi.ver, hi.wi.own, hi.wi.sep⟩, hi.ci, hi.tsz, hi.dfr⟩
  refine wp_mono (wp_region_held hm key) ?_
  rintro e a' w' ⟨S', μ', τ', Γ', hq, hi'⟩
  cases e <;> first | exact hq.elim | exact ⟨S', μ', τ', Γ', hq, hi'⟩
theorem RAny.done {all : Array Oper} {listed : Array Bool} (hr : Region.ready .any all listed = []) (h : Q .normal τ Γ) : RAny P N all 0 listed τ Γ Q :=
  fun _ _ _ S μ _ _ hi => ⟨hr, ⟨S, μ, τ, Γ, h, hi⟩⟩
def RAnys (P : Program) (N : Nat) (all : Array Oper) (fuel : Nat) (listed : Array Bool) (τ : List (Nat × AV)) (Γ : List Ob) (Q : PQ) : List Nat → Prop
  | [] => True
  | i :: l => (∃ o, all[i]? = some o ∧ ROps P N all [o] τ Γ (thenQ (fun τ Γ => RAny P N all fuel (listed.setIfInBounds i true) τ Γ Q) (np Q))) ∧ RAnys P N all fuel listed τ Γ Q l
theorem RAnys.nil {all : Array Oper} {fuel : Nat} {listed : Array Bool} : RAnys P N all fuel listed τ Γ Q [] := trivial
theorem RAnys.cons {all : Array Oper} {fuel i : Nat} {listed : Array Bool} {l : List Nat} {o : Oper} (ho : all[i]? = some o) (h : ROps P N all [o] τ Γ (thenQ (fun τ Γ => RAny P N all fuel (listed.setIfInBounds i true) τ Γ Q) (np Q))) (h2 : RAnys P N all fuel listed τ Γ Q l) : RAnys P N all fuel listed τ Γ Q (i :: l) := ⟨⟨o, ho, h⟩, h2⟩
theorem RAnys.mem {all : Array Oper} {fuel : Nat} {listed : Array Bool} : ∀ {l : List Nat}, RAnys P N all fuel listed τ Γ Q l → ∀ i ∈ l, ∃ o, all[i]? = some o ∧ ROps P N all [o] τ Γ (thenQ (fun τ Γ => RAny P N all fuel (listed.setIfInBounds i true) τ Γ Q) (np Q))
  | [], _, i, hi => by cases hi
  | j :: l, h, i, hi => by
    rcases List.mem_cons.1 hi with e | hi
    · subst e; exact h.1
    · exact RAnys.mem h.2 i hi
theorem RAny.more {all : Array Oper} {fuel : Nat} {listed : Array Bool} {i0 : Nat} {l : List Nat} (hr : Region.ready .any all listed = i0 :: l) (h : RAnys P N all fuel listed τ Γ Q (i0 :: l)) : RAny P N all (fuel + 1) listed τ Γ Q := by
  intro S0 μ0 w0 S μ a w hi
  unfold wpAnyH
  refine And.intro (fun e => by rw [hr] at e; cases e) (fun i hm => ?_)
  rw [hr] at hm
  obtain ⟨o, ho, hR⟩ := h.mem i hm
  have h0 := hR S0 μ0 w0 S S μ a w (SExt.refl S) hi
  have hnext : ∀ a w, Post S0 μ0 w0 N (thenQ (fun τ Γ => RAny P N all fuel (listed.setIfInBounds i true) τ Γ Q) (np Q)) .normal a w → wpAnyH P .any all (Post S0 μ0 w0 N (np Q)) (fun _ => True) fuel (listed.setIfInBounds i true) a w := by
    rintro a w ⟨S', μ', τ', Γ', hk, hi'⟩
    exact hk S0 μ0 w0 S' μ' a w hi'
  simp only [wpL] at h0
  unfold wpOp
  rw [ho]
  dsimp only
  split
  · rename_i e
    rw [if_pos e] at h0
    refine .inl (wp_monoQ (Q := Post S0 μ0 w0 N (thenQ (fun τ Γ => RAny P N all fuel (listed.setIfInBounds i true) τ Γ Q) (np Q))) (fun c a w hc => hc) (fun hc => ?_) (Oper.wp_mono ?_ h0))
    · simpa [LetsOut, Post, thenQ] using hc
    · exact fun a w h => ⟨trivial, hnext a w h.2⟩
  · rename_i e
    rw [if_neg e] at h0
    exact ⟨trivial, hnext _ _ h0⟩

/-! pointers lent: no more cells than their type has -/
theorem ALe.ptr_take {l : List AV} {k : Nat} : ALe (.ptr l) (.ptr (l.take k)) := by
  intro S μ v hv
  simp only [V] at hv ⊢
  obtain ⟨b, off, cs, h1, h2, h3⟩ := hv
  exact ⟨b, off, cs, h1, h2, h3.take k⟩
theorem Bor.le' {a b c : AV} (k : Bor Γ a b) (h : ALe b c) : Bor Γ a c := fun S μ Γ2 w Sb v h1 h2 h3 hv => h Sb [] v (k S μ Γ2 w Sb v h1 h2 h3 hv)
theorem Bor.optrT {p ver off : Nat} {l l' r : List AV} (k : Nat) (hp : Γ[p]? = some ⟨ver, some l⟩) (h : BorP Γ l l') (hr : (l'.drop off).take k = r) : Bor Γ (.optr p ver off) (.ptr r) := by
  subst hr; exact (Bor.optr hp h rfl).le' ALe.ptr_take
theorem Bor.ptrT {l l' r : List AV} (k : Nat) (h : Bors Γ l l') (hr : l'.take k = r) : Bor Γ (.ptr l) (.ptr r) := by
  subst hr; exact (Bor.ptr h).le' ALe.ptr_take
end
end Go.AM

/- A semantic order on what is known at a point: weaker claims, own objects that count as settled from now on, own objects under other names. Own work. -/
namespace Go.AM

section
variable {P : Program} {N : Nat} {τ τ' : List (Nat × AV)} {Γ Γ' : List Ob}

/-- What is known by the one is known by the other, at the same state. -/
def Le (N : Nat) (τ : List (Nat × AV)) (Γ : List Ob) (τ' : List (Nat × AV)) (Γ' : List Ob) : Prop :=
  ∀ (S0 : Snap) (μ0 : List Mu) (w0 : World) (S : Snap) (μ : List Mu) (a : Act) (w : World), Inv S0 μ0 w0 N S μ τ Γ a w → ∃ S' μ', Inv S0 μ0 w0 N S' μ' τ' Γ' a w
theorem Le.of (hw : WeakLe τ τ') (hd : DeadLe Γ Γ') : Le N τ Γ τ' Γ' :=
  fun _ _ _ S μ _ _ hi => ⟨S, μ, hi.fr, hi.wi.dead hd, fun t => WeakLe.look (hi.ci t) hw, hi.tsz, hi.dfr⟩
theorem Le.trans {τ1 : List (Nat × AV)} {Γ1 : List Ob} (h : Le N τ Γ τ1 Γ1) (k : Le N τ1 Γ1 τ' Γ') : Le N τ Γ τ' Γ' := by
  intro S0 μ0 w0 S μ a w hi
  obtain ⟨S1, μ1, h1⟩ := h _ _ _ _ _ _ _ hi
  exact k _ _ _ _ _ _ _ h1
theorem RunC.le {c : Code} {Q : PQ} (hl : Le N τ Γ τ' Γ') (h : RunC P N c τ' Γ' Q) : RunC P N c τ Γ Q := by
  intro S0 μ0 w0 S μ a w hi
  obtain ⟨S', μ', hi'⟩ := hl _ _ _ _ _ _ _ hi
  exact h _ _ _ _ _ _ _ hi'

def deadAll : List Ob → List Ob
  | [] => []
  | g :: r => ⟨g.ver, none⟩ :: deadAll r
/-- Of the own objects this one alone. -/
def onlyOb : Nat → List Ob → List Ob
  | _, [] => []
  | 0, g :: r => g :: deadAll r
  | k + 1, g :: r => ⟨g.ver, none⟩ :: onlyOb k r
theorem deadAll_le : ∀ Γ : List Ob, DeadLe Γ (deadAll Γ)
  | [] => trivial
  | _ :: r => ⟨⟨rfl, .inl rfl⟩, deadAll_le r⟩
theorem only_le : ∀ (p : Nat) (Γ : List Ob), DeadLe Γ (onlyOb p Γ)
  | _, [] => by cases ‹Nat› <;> exact trivial
  | 0, _ :: r => ⟨⟨rfl, .inr rfl⟩, deadAll_le r⟩
  | p + 1, _ :: r => ⟨⟨rfl, .inl rfl⟩, only_le p r⟩
theorem deadAll_at : ∀ (Γ : List Ob) (i ver : Nat) (l : List AV), (deadAll Γ)[i]? ≠ some ⟨ver, some l⟩
  | [], _, _, _ => by simp [deadAll]
  | _ :: r, 0, _, _ => by simp [deadAll]
  | _ :: r, i + 1, ver, l => by simpa [deadAll] using deadAll_at r i ver l
theorem only_at : ∀ (p : Nat) (Γ : List Ob) (i ver : Nat) (l : List AV), (onlyOb p Γ)[i]? = some ⟨ver, some l⟩ → i = p ∧ Γ[p]? = some ⟨ver, some l⟩
  | p, [], i, ver, l, h => by cases p <;> simp [onlyOb] at h
  | 0, g :: r, 0, ver, l, h => by simp [onlyOb] at h; simp [h]
  | 0, g :: r, i + 1, ver, l, h => by simp [onlyOb] at h; exact (deadAll_at r i ver l h).elim
  | p + 1, g :: r, 0, ver, l, h => by simp [onlyOb] at h
  | p + 1, g :: r, i + 1, ver, l, h => by
    simp [onlyOb] at h
    obtain ⟨h1, h2⟩ := only_at p r i ver l h
    exact ⟨by omega, by simpa using h2⟩

def SettOk (Γ1 : List Ob) (τ : List (Nat × AV)) : List (Nat × AV) → Prop
  | [] => True
  | (d, v) :: r => (look τ d = v ∨ Bor Γ1 (look τ d) v) ∧ SettOk Γ1 τ r

theorem MuLe.nil (B : Nat) (μ : List Mu) : MuLe B [] μ := fun i m h => by simp at h

/-- An own object that is not written any more counts as settled. -/
theorem Le.settle (p : Nat) {ver : Nat} {l : List AV} (τ' : List (Nat × AV)) (hz : N % 2 = 1) (hp : Γ[p]? = some ⟨ver, some l⟩) (hΓ : Γ.set p ⟨ver, none⟩ = Γ') (hs : SettOk (onlyOb p Γ) τ τ') : Le N τ Γ τ' Γ' := by
  intro S0 μ0 w0 S μ a w hi
  subst hΓ
  have hw1 : WI S μ (onlyOb p Γ) w := hi.wi.dead (only_le p Γ)
  have hL := lend_lent hw1
  refine ⟨lend S μ (onlyOb p Γ) w, μ, ⟨hi.fr.ext.trans hL.ext, hi.fr.le, hi.fr.new, hi.fr.keep, hi.fr.size, hi.fr.os, hi.fr.tape, hi.fr.output, ?_⟩, ⟨?_, ?_, ?_, ?_, ?_⟩, ?_, hi.tsz, hi.dfr⟩
  · intro b c hb
    rcases lend_some hb with h | ⟨⟨q, ver', l', m, hq, hm, hb⟩, _⟩
    · exact hi.fr.sf b c h
    · rcases hi.fr.new q m b hm hb with ⟨m0, h0, _⟩ | h
      · rw [hi.tsz.2 hz] at h0; simp at h0
      · exact .inr h
  · intro b c hb
    rcases lend_some hb with h | ⟨_, T, fz, h⟩
    · exact hi.wi.snap b c h
    · exact ⟨T, fz, h⟩
  · simpa using hi.wi.len
  · intro o g m hg hm
    by_cases e : p = o
    · subst e
      have hlt := lt_of_getElem? hp
      rw [List.getElem?_set_self hlt] at hg
      cases hg
      exact (hi.wi.ver p ⟨ver, some l⟩ m hp hm : m.ver = ver)
    · rw [List.getElem?_set_ne e] at hg
      exact hi.wi.ver o g m hg hm
  · intro o v l' m hg hm
    by_cases e : p = o
    · subst e
      have hlt := lt_of_getElem? hp
      rw [List.getElem?_set_self hlt] at hg
      cases hg
    · rw [List.getElem?_set_ne e] at hg
      have h1 := hi.wi.own o v l' m hg hm
      unfold OwnAt at h1 ⊢
      split
      · rename_i hb; rw [hb] at h1; exact h1
      · rename_i b hb
        rw [hb] at h1
        obtain ⟨h2, cs, T, h3, h4, h5⟩ := h1
        refine ⟨?_, cs, T, h3, h4, VP.mono hL.ext (MuLe.refl 0 μ) _ _ h5⟩
        cases hc : lend S μ (onlyOb p Γ) w b with
        | none => rfl
        | some c =>
          rcases lend_some hc with h | ⟨⟨q, ver', l2, m', hq, hm', hb'⟩, _⟩
          · rw [h2] at h; cases h
          · obtain ⟨rfl, hq2⟩ := only_at p Γ q ver' l2 hq
            exact (e (hi.wi.sep q o _ _ m' m b hq2 rfl hg rfl hm' hm hb' hb)).elim
  · intro o o' g g' m m' b hg hs1 hg' hs2 hm hm' hb hb'
    have key : ∀ (o : Nat) (g : Ob), (Γ.set p ⟨ver, none⟩)[o]? = some g → g.cells.isSome = true → Γ[o]? = some g := by
      intro o g hg hs1
      by_cases e : p = o
      · subst e
        rw [List.getElem?_set_self (lt_of_getElem? hp)] at hg
        cases hg; cases hs1
      · rw [List.getElem?_set_ne e] at hg; exact hg
    exact hi.wi.sep o o' g g' m m' b (key o g hg hs1) hs1 (key o' g' hg' hs2) hs2 hm hm' hb hb'
  · intro t
    have gen : ∀ r : List (Nat × AV), SettOk (onlyOb p Γ) τ r → V (lend S μ (onlyOb p Γ) w) μ (look r t) (a.tmps.getD t undef) := by
      intro r
      induction r with
      | nil => intro _; simp only [look, V]
      | cons x r ih =>
        obtain ⟨d, v⟩ := x
        intro h
        simp only [look]
        split
        · rename_i e
          subst e
          rcases h.1 with h1 | h1
          · rw [← h1]; exact V.mono hL.ext (MuLe.refl 0 μ) _ _ (hi.ci d)
          · exact V.mono (SExt.refl _) (MuLe.nil 0 μ) _ _ (h1 S μ (onlyOb p Γ) w _ _ (LiveLe.refl _) hw1 hL (hi.ci d))
        · exact ih h.2
    exact gen τ' hs

def SelTau (sel : List (Nat × Nat)) (τ : List (Nat × AV)) : List (Nat × AV) → Prop
  | [] => True
  | (d, v) :: r => (∃ w, look τ d = w ∧ ((w = v ∧ v.lt 0 = true) ∨ (w = v.ren (sigma sel) ∧ v.lt sel.length = true))) ∧ SelTau sel τ r

/-- Own objects under other names; those that are not chosen are forgotten. -/
theorem Le.sel (sel : List (Nat × Nat)) (τ' : List (Nat × AV)) (Γ' : List Ob) (hz : N % 2 = 1) (hsel : SelOk sel Γ Γ') (hτ : SelTau sel τ τ') : Le N τ Γ τ' Γ' := by
  intro S0 μ0 w0 S μ a w hi
  have hσ := shift_selMu hi.wi hsel
  have h0 := hi.tsz.2 hz
  have hfr := hi.fr
  subst h0
  refine ⟨S, selMu sel μ, ⟨hfr.ext, MuLe.nil _ _, ?_, hfr.keep, hfr.size, hfr.os, hfr.tape, hfr.output, hfr.sf⟩, hi.wi.sel hsel, ?_, hi.tsz, hi.dfr⟩
  · intro i m1 b hm1 hb
    have hi' : i < sel.length := by have := lt_of_getElem? hm1; rwa [length_selMu] at this
    have h1 := hσ i hi'
    rw [hm1] at h1
    cases e : μ[(sigma sel i).1]? with
    | none => rw [e] at h1; exact h1.elim
    | some m =>
      rw [e] at h1
      have h2 : m1 = { m with ver := m.ver - (sigma sel i).2 } := h1.2
      rcases hfr.new _ m b e (by rw [h2] at hb; exact hb) with ⟨m0, k0, _⟩ | k
      · simp at k0
      · exact .inr k
  · intro t
    have gen : ∀ r : List (Nat × AV), SelTau sel τ r → V S (selMu sel μ) (look r t) (a.tmps.getD t undef) := by
      intro r
      induction r with
      | nil => intro _; simp only [look, V]
      | cons x r ih =>
        obtain ⟨d, v⟩ := x
        intro h
        simp only [look]
        split
        · rename_i e
          subst e
          obtain ⟨⟨w', hw1, hw2⟩, _⟩ := h
          have hv := hi.ci d
          rw [hw1] at hv
          rcases hw2 with ⟨rfl, hl⟩ | ⟨rfl, hl⟩
          · exact V.mono (SExt.refl _) (MuLe.nil 0 _) _ _ (V.pure hl hv)
          · exact V.unren hσ v _ hl hv
        · exact ih h.2
    exact gen τ' hτ
end
end Go.AM

/- Settling an own object that boxes may name, too. Own work. -/
namespace Go.AM

section
variable {P : Program} {N : Nat} {τ τ' : List (Nat × AV)} {Γ Γ' : List Ob}

def SettL (Γ1 : List Ob) : List AV → List AV → Prop
  | [], [] => True
  | a :: l, b :: l' => (a = b ∨ Bor Γ1 a b) ∧ SettL Γ1 l l'
  | _, _ => False
def SettG (Γ1 : List Ob) : List Ob → List Ob → Prop
  | [], [] => True
  | g :: r, g' :: r' => (g' = g ∨ (g'.ver = g.ver ∧ (g'.cells = none ∨ ∃ l l', g.cells = some l ∧ g'.cells = some l' ∧ SettL Γ1 l l'))) ∧ SettG Γ1 r r'
  | _, _ => False
theorem SettL.refl (Γ1 : List Ob) : ∀ l : List AV, SettL Γ1 l l
  | [] => trivial
  | _ :: l => ⟨.inl rfl, SettL.refl Γ1 l⟩
theorem SettG.length {Γ1 : List Ob} : ∀ {l l' : List Ob}, SettG Γ1 l l' → l'.length = l.length
  | [], [], _ => rfl
  | _ :: l, _ :: l', h => by simp [SettG.length h.2]
  | [], _ :: _, h => h.elim
  | _ :: _, [], h => h.elim
theorem SettG.at {Γ1 : List Ob} : ∀ {Γ Γ' : List Ob}, SettG Γ1 Γ Γ' → ∀ (i : Nat) (g' : Ob), Γ'[i]? = some g' → ∃ g, Γ[i]? = some g ∧ g'.ver = g.ver ∧ ∀ l', g'.cells = some l' → ∃ l, g.cells = some l ∧ SettL Γ1 l l'
  | [], [], _, i, g', hg => by simp at hg
  | g :: r, g1 :: r', h, 0, g', hg => by
    simp at hg
    subst hg
    rcases h.1 with rfl | ⟨hv, hc⟩
    · exact ⟨_, rfl, rfl, fun l' e => ⟨l', e, SettL.refl _ _⟩⟩
    · refine ⟨g, rfl, hv, fun l' e => ?_⟩
      rcases hc with hc | ⟨l, l2, h1, h2, h3⟩
      · rw [hc] at e; cases e
      · rw [h2] at e; cases e; exact ⟨l, h1, h3⟩
  | g :: r, g1 :: r', h, i + 1, g', hg => by
    simp at hg
    simpa using SettG.at h.2 i g' hg
  | [], _ :: _, h, _, _, _ => h.elim
  | _ :: _, [], h, _, _, _ => h.elim

theorem Le.settleG (p : Nat) {ver : Nat} {l : List AV} (τ' : List (Nat × AV)) (Γ' : List Ob) (hz : N % 2 = 1) (hp : Γ[p]? = some ⟨ver, some l⟩) (hp' : (Γ'[p]?).bind (·.cells) = none) (hG : SettG (onlyOb p Γ) Γ Γ') (hs : SettOk (onlyOb p Γ) τ τ') : Le N τ Γ τ' Γ' := by
  intro S0 μ0 w0 S μ a w hi
  have hw1 : WI S μ (onlyOb p Γ) w := hi.wi.dead (only_le p Γ)
  have hL := lend_lent hw1
  have hV : ∀ (x y : AV) (v : Value), (x = y ∨ Bor (onlyOb p Γ) x y) → V S μ x v → V (lend S μ (onlyOb p Γ) w) μ y v := by
    intro x y v h hv
    rcases h with rfl | h
    · exact V.mono hL.ext (MuLe.refl 0 μ) _ _ hv
    · exact V.mono (SExt.refl _) (MuLe.nil 0 μ) _ _ (h S μ (onlyOb p Γ) w _ _ (LiveLe.refl _) hw1 hL hv)
  have hVP : ∀ (l l' : List AV) (vs : List Value), SettL (onlyOb p Γ) l l' → VP S μ l vs → VP (lend S μ (onlyOb p Γ) w) μ l' vs := by
    intro l
    induction l with
    | nil => intro l' vs h _; cases l' with
      | nil => simp only [VP]
      | cons _ _ => exact h.elim
    | cons x l ih =>
      intro l' vs h hv
      cases l' with
      | nil => exact h.elim
      | cons y l' =>
        cases vs with
        | nil => simp only [VP] at hv
        | cons v vs =>
          simp only [VP] at hv ⊢
          exact ⟨hV x y v h.1 hv.1, ih l' vs h.2 hv.2⟩
  refine ⟨lend S μ (onlyOb p Γ) w, μ, ⟨hi.fr.ext.trans hL.ext, hi.fr.le, hi.fr.new, hi.fr.keep, hi.fr.size, hi.fr.os, hi.fr.tape, hi.fr.output, ?_⟩, ⟨?_, ?_, ?_, ?_, ?_⟩, ?_, hi.tsz, hi.dfr⟩
  · intro b c hb
    rcases lend_some hb with h | ⟨⟨q, ver', l', m, hq, hm, hb⟩, _⟩
    · exact hi.fr.sf b c h
    · rcases hi.fr.new q m b hm hb with ⟨m0, h0, _⟩ | h
      · rw [hi.tsz.2 hz] at h0; simp at h0
      · exact .inr h
  · intro b c hb
    rcases lend_some hb with h | ⟨_, T, fz, h⟩
    · exact hi.wi.snap b c h
    · exact ⟨T, fz, h⟩
  · rw [hi.wi.len, hG.length]
  · intro o g' m hg hm
    obtain ⟨g, h1, h2, _⟩ := hG.at o g' hg
    rw [h2]; exact hi.wi.ver o g m h1 hm
  · intro o v l' m hg hm
    obtain ⟨⟨v0, c0⟩, h1, h2, h3⟩ := hG.at o _ hg
    obtain ⟨l0, h4, h5⟩ := h3 l' rfl
    simp only at h2 h4
    subst h2; subst h4
    have e : p ≠ o := by
      rintro rfl
      rw [hg] at hp'
      simp at hp'
    have k1 := hi.wi.own o _ l0 m h1 hm
    unfold OwnAt at k1 ⊢
    split
    · rename_i hb
      rw [hb] at k1
      simp only at k1
      subst k1
      cases l' with
      | nil => rfl
      | cons _ _ => exact h5.elim
    · rename_i b hb
      rw [hb] at k1
      obtain ⟨k2, cs, T, k3, k4, k5⟩ := k1
      refine ⟨?_, cs, T, k3, k4, hVP _ _ _ h5 k5⟩
      cases hc : lend S μ (onlyOb p Γ) w b with
      | none => rfl
      | some c =>
        rcases lend_some hc with h | ⟨⟨q, ver', l2, m', hq, hm', hb'⟩, _⟩
        · rw [k2] at h; cases h
        · obtain ⟨rfl, hq2⟩ := only_at p Γ q ver' l2 hq
          exact (e (hi.wi.sep q o _ _ m' m b hq2 rfl h1 rfl hm' hm hb' hb)).elim
  · intro o o' g g' m m' b hg hs1 hg' hs2 hm hm' hb hb'
    have key : ∀ (o : Nat) (g : Ob), Γ'[o]? = some g → g.cells.isSome = true → ∃ g0, Γ[o]? = some g0 ∧ g0.cells.isSome = true := by
      intro o g hg hs1
      obtain ⟨g0, h1, _, h3⟩ := hG.at o g hg
      obtain ⟨l1, hl1⟩ := Option.isSome_iff_exists.1 hs1
      obtain ⟨l0, h4, _⟩ := h3 l1 hl1
      exact ⟨g0, h1, by rw [h4]; rfl⟩
    obtain ⟨g0, h1, h2⟩ := key o g hg hs1
    obtain ⟨g0', h1', h2'⟩ := key o' g' hg' hs2
    exact hi.wi.sep o o' g0 g0' m m' b h1 h2 h1' h2' hm hm' hb hb'
  · intro t
    have gen : ∀ r : List (Nat × AV), SettOk (onlyOb p Γ) τ r → V (lend S μ (onlyOb p Γ) w) μ (look r t) (a.tmps.getD t undef) := by
      intro r
      induction r with
      | nil => intro _; simp only [look, V]
      | cons x r ih =>
        obtain ⟨d, v⟩ := x
        intro h
        simp only [look]
        split
        · rename_i e
          subst e
          exact hV _ _ _ h.1 (hi.ci d)
        · exact ih h.2
    exact gen τ' hs
end
end Go.AM

/- The builtin min of two integers. Own work. -/
namespace Go.AM
section
variable {P : Program} {o : Oper} {τ : List (Nat × AV)}
def imin (a b : Int) : Int := if b < a then b else a
theorem LOp.min2 {t u : TypeId} {x y : Operand} {k : IntKind} {a b : Int} (ho : o.op = .call { callee := .builtin .min, args := #[x, y], argTypes := #[t, u] }) (hx : ev τ x = .x (.int k a)) (hy : ev τ y = .x (.int k b)) : LOp P o τ (.x (.int k (imin a b))) := by
  intro S μ c h
  have k1 := opnd h (x := x) (by simp [ho, Op.operands, Call.operands]) hx
  have k2 := opnd h (x := y) (by simp [ho, Op.operands, Call.operands]) hy
  simp only [V] at k1 k2
  refine ⟨.int k (imin a b), fun w _ => ?_, by simp only [V]⟩
  simp [execOp, ho, resolve, invoke, builtin, Builtin.min_, Builtin.min2, k1, k2, imin]
end
end Go.AM

/- The layer: a slice of an own slice from its beginning; the rest is forgotten. Own work. -/
namespace Go.AM
section
variable {P : Program} {N : Nat} {τ : List (Nat × AV)} {Γ : List Ob} {Q : PQ} {o : Oper}
theorem WI.cutOb {S : Snap} {μ : List Mu} {w : World} {p ver k : Nat} {L : List AV} (h : WI S μ Γ w) (hp : Γ[p]? = some ⟨ver, some L⟩) : WI S μ (Γ.set p ⟨ver, some (L.take k)⟩) w := by
  have hlt := lt_of_getElem? hp
  have key : ∀ (i : Nat) (g : Ob), (Γ.set p ⟨ver, some (L.take k)⟩)[i]? = some g → ∃ g0, Γ[i]? = some g0 ∧ g.ver = g0.ver ∧ (g.cells.isSome = true → g0.cells.isSome = true) ∧ (i = p ∧ g = ⟨ver, some (L.take k)⟩ ∨ g = g0) := by
    intro i g hg
    by_cases e : p = i
    · subst e
      rw [List.getElem?_set_self hlt] at hg
      cases hg
      exact ⟨_, hp, rfl, fun _ => rfl, .inl ⟨rfl, rfl⟩⟩
    · rw [List.getElem?_set_ne e] at hg
      exact ⟨g, hg, rfl, id, .inr rfl⟩
  refine ⟨h.snap, by simpa using h.len, ?_, ?_, ?_⟩
  · intro i g m hg hm
    obtain ⟨g0, h1, h2, _⟩ := key i g hg
    rw [h2]; exact h.ver i g0 m h1 hm
  · intro i v l m hg hm
    obtain ⟨g0, h1, h2, _, h3⟩ := key i _ hg
    rcases h3 with ⟨rfl, h3⟩ | h3
    · cases h3
      have := h.own i _ _ m hp hm
      unfold OwnAt at *
      split at this
      · subst this; simp
      · obtain ⟨k1, cs, T, k2, k3, k4⟩ := this
        exact ⟨k1, cs, T, k2, k3, k4.take k⟩
    · subst h3; exact h.own i _ _ m h1 hm
  · intro i i' g g' m m' b hg hs hg' hs' hm hm' hb hb'
    obtain ⟨g0, h1, _, h3, _⟩ := key i g hg
    obtain ⟨g0', h1', _, h3', _⟩ := key i' g' hg'
    exact h.sep i i' g0 g0' m m' b h1 (h3 hs) h1' (h3' hs') hm hm' hb hb'
theorem TOp.slice_hi_o {t e : TypeId} {x hi : Operand} {p ver n : Nat} {k' : IntKind} {j : Int} {l : List AV} (ht : ∀ w, (underlying t).run P w = .ok (.slice e) w) (he : ∀ w, (sizeOf e).run P w = .ok 1 w)
    (ho : o.op = .slice t x none (some hi) none) (hx : ev τ x = .oref p ver 0 n) (hhi : ev τ hi = .x (.int k' j)) (h0 : 0 ≤ j) (h1 : j ≤ n) (hΓ : Γ[p]? = some ⟨ver, some l⟩) : TOp P o τ Γ (.oref p ver 0 j.toNat) [] := by
  intro S μ Γ2 a w hL _ hw h next Q hn
  have k1 := opnd h (x := x) (by simp [ho, Op.operands]) hx
  have k2 := opnd h (x := hi) (by simp [ho, Op.operands]) hhi
  simp only [V] at k1 k2
  obtain ⟨m, ad, cap, k3, k4, k5, k6⟩ := k1
  have hv := hw.ver p _ m (hL.2 p ver l hΓ) k3
  have k7 := k6 hv
  have hcap : n ≤ cap := by
    cases hb : m.blk with
    | none => rw [hb] at k7; simp only at k7; omega
    | some b => rw [hb] at k7; simp only at k7; exact k7.2.1
  obtain ⟨jn, rfl⟩ : ∃ jn : Nat, j = (jn : Int) := ⟨j.toNat, by omega⟩
  unfold Oper.wp
  have hrun : (execOp a.eval o).run P w = .ok (.value (.slice (if cap = 0 then ad else ad.map (·.add (0 * 1))) jn cap)) w := by
    simp [execOp, ho, k2, k5, Instr.sliceAt, Instr.slice, Instr.sliceBounds, Instr.sliceBound, asIntOf, ht, he, show ¬ cap < jn from by omega]
  rw [hrun]
  refine hn S μ _ w (SExt.refl S) (SFresh.refl _ S) (MuStep.refl _ _ _) hw ?_ (Grow.refl w)
  simp only [V]
  refine ⟨m, _, cap, k3, k4, rfl, fun e => ?_⟩
  have k8 := k6 e
  cases hb : m.blk with
  | none => rw [hb] at k8; simp only at k8 ⊢; exact ⟨k8.1, k8.2.1, by omega⟩
  | some b =>
    rw [hb] at k8; simp only at k8 ⊢
    obtain ⟨rfl, k9, k10⟩ := k8
    refine ⟨?_, by omega, k10⟩
    split
    · rfl
    · simp [Addr.add]
theorem ROps.slice_hi_o {α : Type} {f : α → AV} {l r : List α} {all : Array Oper} {rest : List Oper} {t e : TypeId} {x hi : Operand} {p ver n d : Nat} {k' : IntKind} {j : Int} {Γ' : List Ob} (hw : wantT all τ o = some true) (ht : ∀ w, (underlying t).run P w = .ok (.slice e) w) (he : ∀ w, (sizeOf e).run P w = .ok 1 w)
    (ho : o.op = .slice t x none (some hi) none) (hd : o.dst = some d) (hN : Nat.blt d (N / 2) = true) (hx : ev τ x = .oref p ver 0 n) (hhi : ev τ hi = .x (.int k' j)) (hn : l.length = n) (hs : sub? l 0 j = some r) (hp : Γ[p]? = some ⟨ver, some (l.map f)⟩)
    (hΓ : Γ.set p ⟨ver, some (r.map f)⟩ = Γ') (h : ROps P N all rest ((d, .oref p ver 0 r.length) :: τ) Γ' Q) : ROps P N all (o :: rest) τ Γ Q := by
  obtain ⟨_, h0, h1, hr⟩ := sub?_spec hs
  have hl := sub?_len hs
  rw [show Int.toNat 0 = 0 from rfl, List.drop_zero] at hr
  refine ROps.op hw ?_
  intro S0 μ0 w0 S μ a w hi next Q' hk
  have ht' := TOp.slice_hi_o (Γ := Γ) ht he ho hx hhi h0 (by omega) hp
  have hdl : dstLt N o = true := by simp only [dstLt, hd]; simpa using hN
  refine (ht'.rop (K := fun τ1 Γ1 => τ1 = put τ o.dst (.oref p ver 0 j.toNat) ∧ Γ1 = fillOb Γ []) hdl ⟨rfl, rfl⟩) S0 μ0 w0 S μ a w hi next Q' ?_
  rintro S' μ' v w' τ' Γ1 hS ⟨rfl, hΓ1⟩ hi'
  have e1 : j.toNat = r.length := by omega
  refine hk S' μ' v w' (put τ o.dst (.oref p ver 0 j.toNat)) Γ' hS ?_ ⟨hi'.fr, ?_, hi'.ci, hi'.tsz, hi'.dfr⟩
  · rw [hd, e1]; exact h
  · have hi2 : WI S' μ' Γ w' := by
      have := hi'.wi
      rw [hΓ1] at this; exact this
    have := hi2.cutOb (k := j.toNat) hp
    rw [← List.map_take, ← hr, hΓ] at this
    exact this
end
end Go.AM
