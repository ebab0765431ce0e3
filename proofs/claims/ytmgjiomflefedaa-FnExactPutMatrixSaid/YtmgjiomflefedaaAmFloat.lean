/- The abstract layer, tenth part: floats. -/
import Derived.Test.YtmgjiomflefedaaAmLoop
import Derived.Laws.ComplexArith
namespace Go.AM

def fop (op : BinOp) (k : FloatKind) (x y : F) : F := x.bind fun a => y.bind fun b => floatBits op k a b
def ford (k : FloatKind) (x y : F) : Option Ordering := x.bind fun a => y.bind fun b => k.format.order a b
def feq (k : FloatKind) (x y : F) : Bool := ford k x y == some .eq
def flt (k : FloatKind) (x y : F) : Bool := ford k x y == some .lt
def fle (k : FloatKind) (x y : F) : Bool := ford k x y == some .lt || ford k x y == some .eq
def fneg (k : FloatKind) (x : F) : F := x.map (Op.negFloat k)
def fwiden (x : F) : F := x.map fun b => FloatKind.f64.encode (FloatKind.f32.decode b)
def fint (k : FloatKind) (n : Int) : F := some (k.nearest n)

section words
open Ieee
theorem signW (f : Format) : f.infRung < f.signWeight := f.infRung_lt
theorem read_word (f : Format) (neg : Bool) {rung : Nat} (h : rung ≤ f.infRung) : (f.read (f.word neg rung)).isNaN = false := by
  have h1 := f.infRung_lt
  have h2 : f.word neg rung % f.signWeight = rung := by
    unfold Format.word
    split
    · rw [Nat.add_mod_left]; exact Nat.mod_eq_of_lt (by omega)
    · exact Nat.mod_eq_of_lt (by omega)
  simp only [Format.read, h2]
  split
  · rfl
  · split
    · rfl
    · have : rung = f.infRung := by omega
      rw [if_pos this]; rfl
theorem read_write (f : Format) {d : Datum} (h : d.isNaN = false) : (f.read (f.write d)).isNaN = false := by
  cases d with
  | number neg mag place =>
    simp only [Format.write, Format.nearest]
    split
    · exact read_word f neg (Nat.zero_le _)
    · exact read_word f neg (Nat.min_le_right _ _)
  | infinity neg => exact read_word f neg (Nat.le_refl _)
  | nan neg fr => simp [Datum.isNaN] at h
theorem sum_notNaN {a b d : Datum} (h : a.sum b = some d) : d.isNaN = false := by
  cases a <;> cases b <;> simp only [Datum.sum] at h <;> first
    | (cases h; done)
    | (split at h <;> first | (cases h; done) | (cases h; rfl))
    | (cases h; rfl)
theorem product_notNaN {a b d : Datum} (h : a.product b = some d) : d.isNaN = false := by
  cases a <;> cases b <;> simp only [Datum.product] at h <;> first
    | (cases h; done)
    | (split at h <;> first | (cases h; done) | (cases h; rfl))
    | (cases h; rfl)
theorem quotient_notNaN {a b d : Datum} {n : Nat} (h : a.quotient n b = some d) : d.isNaN = false := by
  cases a <;> cases b <;> simp only [Datum.quotient] at h <;> first
    | (cases h; done)
    | (split at h <;> first | (cases h; done) | (cases h; rfl) | (split at h <;> first | (cases h; done) | (cases h; rfl)))
    | (cases h; rfl)
theorem sum_nan {a b : Datum} (h : a.isNaN = true ∨ b.isNaN = true) : a.sum b = none := by
  cases a <;> cases b <;> simp [Datum.isNaN, Datum.sum] at h ⊢
theorem product_nan {a b : Datum} (h : a.isNaN = true ∨ b.isNaN = true) : a.product b = none := by
  cases a <;> cases b <;> simp [Datum.isNaN, Datum.product] at h ⊢
theorem quotient_nan {a b : Datum} {n : Nat} (h : a.isNaN = true ∨ b.isNaN = true) : a.quotient n b = none := by
  cases a <;> cases b <;> simp [Datum.isNaN, Datum.quotient] at h ⊢
theorem order_nan {a b : Datum} (h : a.isNaN = true ∨ b.isNaN = true) : a.order b = none := by
  cases a <;> cases b <;> simp [Datum.isNaN, Datum.order] at h ⊢
theorem opposite_nan {a : Datum} : a.opposite.isNaN = a.isNaN := by cases a <;> rfl

theorem floatBits_notNaN {op : BinOp} {k : FloatKind} {x y r : Nat} (h : floatBits op k x y = some r) : (k.format.read r).isNaN = false := by
  unfold floatBits at h
  split at h
  · simp only [Format.add, Option.map_eq_some_iff] at h; obtain ⟨d, h1, rfl⟩ := h; exact read_write _ (sum_notNaN h1)
  · simp only [Format.sub, Option.map_eq_some_iff] at h; obtain ⟨d, h1, rfl⟩ := h; exact read_write _ (sum_notNaN h1)
  · simp only [Format.mul, Option.map_eq_some_iff] at h; obtain ⟨d, h1, rfl⟩ := h; exact read_write _ (product_notNaN h1)
  · simp only [Format.div, Option.map_eq_some_iff] at h; obtain ⟨d, h1, rfl⟩ := h; exact read_write _ (quotient_notNaN h1)
  · cases h
theorem floatBits_lt {op : BinOp} {k : FloatKind} {x y r : Nat} (h : floatBits op k x y = some r) : r < 2 ^ k.format.width := by
  unfold floatBits at h
  split at h
  · exact k.format.add_lt h
  · exact k.format.sub_lt h
  · exact k.format.mul_lt h
  · exact k.format.div_lt h
  · cases h
theorem floatBits_nan {op : BinOp} {k : FloatKind} {x y : Nat} (h : (k.format.read x).isNaN = true ∨ (k.format.read y).isNaN = true) : floatBits op k x y = none := by
  unfold floatBits
  split
  · simp [Format.add, sum_nan h]
  · simp [Format.sub, sum_nan (h.imp id fun h => by rw [opposite_nan]; exact h)]
  · simp [Format.mul, product_nan h]
  · simp [Format.div, quotient_nan h]
  · rfl
theorem FR.nan {k : FloatKind} {b : Nat} {x : F} (h : FR k b x) (hx : x = none) : (k.format.read b).isNaN = true := by subst hx; exact h.2
theorem fop_spec {op : BinOp} {k : FloatKind} {a b : Nat} {x y : F} (hx : FR k a x) (hy : FR k b y) : floatBits op k a b = fop op k x y := by
  cases x with
  | none => rw [floatBits_nan (.inl hx.2)]; rfl
  | some c =>
    cases y with
    | none => rw [floatBits_nan (.inr hy.2)]; rfl
    | some d => obtain ⟨rfl, _⟩ := hx; obtain ⟨rfl, _⟩ := hy; rfl
theorem ford_spec {k : FloatKind} {a b : Nat} {x y : F} (hx : FR k a x) (hy : FR k b y) : k.format.order a b = ford k x y := by
  cases x with
  | none => simp only [Format.order, order_nan (.inl hx.2)]; rfl
  | some c =>
    cases y with
    | none => simp only [Format.order, order_nan (.inr hy.2)]; rfl
    | some d => obtain ⟨rfl, _⟩ := hx; obtain ⟨rfl, _⟩ := hy; rfl
theorem nan_cut {k : FloatKind} (x y t : Nat) : FR k ((Question.nanBits k x y).cut t) none := by
  cases k
  · have h : (Question.nanBits .f32 x y).cut t = (t % 2) * 2 ^ 31 + 0x7f800000 + 1 + (t / 2) % (2 ^ 23 - 1) := rfl
    rw [h]
    have h1 : t % 2 < 2 := Nat.mod_lt _ (by omega)
    have h2 : (t / 2) % (2 ^ 23 - 1) < 2 ^ 23 - 1 := Nat.mod_lt _ (by omega)
    refine ⟨?_, ?_⟩
    · show _ < 2 ^ 32
      omega
    · have e : ((t % 2) * 2 ^ 31 + 0x7f800000 + 1 + (t / 2) % (2 ^ 23 - 1)) % 2 ^ 31 = 0x7f800001 + (t / 2) % (2 ^ 23 - 1) := by omega
      show (Ieee.single.read _).isNaN = true
      have hw : Ieee.single.signWeight = 2 ^ 31 := rfl
      have hb : Ieee.single.binade = 2 ^ 23 := rfl
      have hi : Ieee.single.infRung = 0x7f800000 := rfl
      simp only [Format.read, hw, hb, hi, e]
      rw [if_neg (by omega), if_neg (by omega), if_neg (by omega)]; rfl
  · have h : (Question.nanBits .f64 x y).cut t = (t % 2) * 2 ^ 63 + 0x7ff0000000000000 + 1 + (t / 2) % (2 ^ 52 - 1) := rfl
    rw [h]
    have h1 : t % 2 < 2 := Nat.mod_lt _ (by omega)
    have h2 : (t / 2) % (2 ^ 52 - 1) < 2 ^ 52 - 1 := Nat.mod_lt _ (by omega)
    refine ⟨?_, ?_⟩
    · show _ < 2 ^ 64
      omega
    · have e : ((t % 2) * 2 ^ 63 + 0x7ff0000000000000 + 1 + (t / 2) % (2 ^ 52 - 1)) % 2 ^ 63 = 0x7ff0000000000001 + (t / 2) % (2 ^ 52 - 1) := by omega
      show (Ieee.double.read _).isNaN = true
      have hw : Ieee.double.signWeight = 2 ^ 63 := rfl
      have hb : Ieee.double.binade = 2 ^ 52 := rfl
      have hi : Ieee.double.infRung = 0x7ff0000000000000 := rfl
      simp only [Format.read, hw, hb, hi, e]
      rw [if_neg (by omega), if_neg (by omega), if_neg (by omega)]; rfl
theorem FR.of_bits {op : BinOp} {k : FloatKind} {x y r : Nat} (h : floatBits op k x y = some r) : FR k r (some r) := ⟨rfl, floatBits_lt h, floatBits_notNaN h⟩
end words

section
variable {P : Program} {o : Oper} {τ : List (Nat × AV)} {Γ : List Ob}
/-- An operand is a float as claimed. -/
def OpF (τ : List (Nat × AV)) (x : Operand) (k : FloatKind) (c : F) : Prop := ∀ (S : Snap) (μ : List Mu) (a : Act), V S μ (ev τ x) (a.eval x) → ∃ b, a.eval x = .float k b ∧ FR k b c
theorem OpF.tmp {x : Operand} {k : FloatKind} {c : F} (h : ev τ x = .f k c) : OpF τ x k c := by
  intro S μ a hv
  rw [h] at hv
  simpa only [V] using hv
theorem OpF.const {x : Operand} {k : FloatKind} {b : Nat} (h : ev τ x = .x (.float k b)) (hb : decide (b < 2 ^ k.format.width) = true) (hn : (k.format.read b).isNaN = false) : OpF τ x k (some b) := by
  intro S μ a hv
  rw [h] at hv
  simp only [V] at hv
  exact ⟨b, hv, rfl, of_decide_eq_true hb, hn⟩

theorem run_fop {op : BinOp} {k : FloatKind} {a b : Nat} {x y : F} (hx : FR k a x) (hy : FR k b y) (hop : op = .add ∨ op = .sub ∨ op = .mul ∨ op = .quo) (w : World) :
    ∃ r w', (Op.floatArith op k a b).run P w = .ok (.float k r) w' ∧ FR k r (fop op k x y) ∧ Grow w w' := by
  have hs := fop_spec (op := op) hx hy
  cases h : fop op k x y with
  | some r =>
    rw [h] at hs
    exact ⟨r, w, run_floatArith w hs, FR.of_bits hs, Grow.refl w⟩
  | none =>
    rw [h] at hs
    refine ⟨_, { w with drawn := w.drawn + 1 }, ?_, nan_cut a b (w.tape w.drawn (.nanBits k a b)), ⟨Nat.le_refl _, fun _ _ => rfl, rfl, rfl, rfl⟩⟩
    unfold floatBits at hs
    rcases hop with rfl | rfl | rfl | rfl <;> simp only at hs <;> simp [Op.floatArith, hs, Question.forced] <;> rfl
theorem TOp.fop {op : BinOp} {t ty : TypeId} {x y : Operand} {k : FloatKind} {a b : F} (hop : op = .add ∨ op = .sub ∨ op = .mul ∨ op = .quo) (ho : o.op = .binOp op t x y ty) (hx : OpF τ x k a) (hy : OpF τ y k b) : TOp P o τ Γ (.f k (AM.fop op k a b)) [] := by
  intro S μ Γ2 ac w _ _ hw h next Q hn
  obtain ⟨p, e1, f1⟩ := hx S μ ac (h x (by simp [ho, Op.operands]))
  obtain ⟨q, e2, f2⟩ := hy S μ ac (h y (by simp [ho, Op.operands]))
  obtain ⟨r, w', hrun, hfr, hg⟩ := run_fop (P := P) f1 f2 hop w
  unfold Oper.wp
  have : (execOp ac.eval o).run P w = .ok (.value (.float k r)) w' := by
    rcases hop with rfl | rfl | rfl | rfl <;> simp [execOp, ho, e1, e2, eqGuard, binOp, hrun]
  rw [this]
  exact hn S μ _ w' (SExt.refl S) (SFresh.refl _ S) (MuStep.refl _ _ _) (hw.grow hg) (by simp only [V]; exact ⟨r, rfl, hfr⟩) hg
theorem LOp.fcmp {op : BinOp} {t ty : TypeId} {x y : Operand} {k : FloatKind} {a b : F} {r : Bool} (ho : o.op = .binOp op t x y ty) (hx : OpF τ x k a) (hy : OpF τ y k b)
    (hr : ∀ p q w, k.format.order p q = ford k a b → (Op.floatCmp op k p q).run P w = .ok (.bool r) w) (hop : op = .eql ∨ op = .neq ∨ op = .lss ∨ op = .leq ∨ op = .gtr ∨ op = .geq) : LOp P o τ (.b r) := by
  intro S μ ac h
  obtain ⟨p, e1, f1⟩ := hx S μ ac (h x (by simp [ho, Op.operands]))
  obtain ⟨q, e2, f2⟩ := hy S μ ac (h y (by simp [ho, Op.operands]))
  refine ⟨.bool r, fun w _ => ?_, by simp only [V]⟩
  have := hr p q w (ford_spec f1 f2)
  rcases hop with rfl | rfl | rfl | rfl | rfl | rfl <;> simp [execOp, ho, e1, e2, eqGuard, binOp, this]
theorem ford_swap {k : FloatKind} {a b : F} : ford k b a = (ford k a b).map Ordering.swap := by
  cases a with
  | none => cases b <;> rfl
  | some x =>
    cases b with
    | none => rfl
    | some y =>
      show k.format.order y x = (k.format.order x y).map _
      unfold Ieee.Format.order
      cases k.format.read x <;> cases k.format.read y <;> simp only [Ieee.Datum.order, Option.map_none, Option.map_some]
      · rename_i s m i t n j
        rw [show min j i = min i j from by omega]
        rw [← Int.compare_swap]
      · rename_i s m i t; cases t <;> rfl
      · rename_i s t n j; cases s <;> rfl
      · rename_i s t; cases s <;> cases t <;> rfl
theorem LOp.feq {t ty : TypeId} {x y : Operand} {k : FloatKind} {a b : F} (ho : o.op = .binOp .eql t x y ty) (hx : OpF τ x k a) (hy : OpF τ y k b) : LOp P o τ (.b (AM.feq k a b)) :=
  LOp.fcmp ho hx hy (fun p q w h => by simp [Op.floatCmp, h, AM.feq]) (by simp)
theorem LOp.fne {t ty : TypeId} {x y : Operand} {k : FloatKind} {a b : F} (ho : o.op = .binOp .neq t x y ty) (hx : OpF τ x k a) (hy : OpF τ y k b) : LOp P o τ (.b (!AM.feq k a b)) :=
  LOp.fcmp ho hx hy (fun p q w h => by simp [Op.floatCmp, h, AM.feq, bne]) (by simp)
theorem LOp.flt {t ty : TypeId} {x y : Operand} {k : FloatKind} {a b : F} (ho : o.op = .binOp .lss t x y ty) (hx : OpF τ x k a) (hy : OpF τ y k b) : LOp P o τ (.b (AM.flt k a b)) :=
  LOp.fcmp ho hx hy (fun p q w h => by simp [Op.floatCmp, h, AM.flt]) (by simp)
theorem LOp.fle {t ty : TypeId} {x y : Operand} {k : FloatKind} {a b : F} (ho : o.op = .binOp .leq t x y ty) (hx : OpF τ x k a) (hy : OpF τ y k b) : LOp P o τ (.b (AM.fle k a b)) :=
  LOp.fcmp ho hx hy (fun p q w h => by simp [Op.floatCmp, h, AM.fle]) (by simp)
theorem swap_gt {o : Option Ordering} : (o.map Ordering.swap == some .lt) = (o == some .gt) := by cases o with | none => rfl | some o => cases o <;> rfl
theorem swap_eq {o : Option Ordering} : (o.map Ordering.swap == some .eq) = (o == some .eq) := by cases o with | none => rfl | some o => cases o <;> rfl
theorem LOp.fgt {t ty : TypeId} {x y : Operand} {k : FloatKind} {a b : F} (ho : o.op = .binOp .gtr t x y ty) (hx : OpF τ x k a) (hy : OpF τ y k b) : LOp P o τ (.b (AM.flt k b a)) :=
  LOp.fcmp ho hx hy (fun p q w h => by simp only [Op.floatCmp, h, AM.flt]; rw [ford_swap (a := a) (b := b), swap_gt]; rfl) (by simp)
theorem LOp.fge {t ty : TypeId} {x y : Operand} {k : FloatKind} {a b : F} (ho : o.op = .binOp .geq t x y ty) (hx : OpF τ x k a) (hy : OpF τ y k b) : LOp P o τ (.b (AM.fle k b a)) :=
  LOp.fcmp ho hx hy (fun p q w h => by simp only [Op.floatCmp, h, AM.fle]; rw [ford_swap (a := a) (b := b), swap_gt, swap_eq]; rfl) (by simp)
theorem encode_FR (k : FloatKind) {d : Ieee.Datum} (h : d.isNaN = false) : FR k (k.encode d) (some (k.encode d)) := ⟨rfl, k.format.write_lt d, read_write _ h⟩
theorem LOp.i2f {src dst : TypeId} {x : Operand} {k : FloatKind} {ik : IntKind} {n : Int} (hs : ∃ d, P.underlying src = some d) (hd : P.underlying dst = some (.float k)) (ho : o.op = .convert src dst x) (hx : ev τ x = .x (.int ik n)) : LOp P o τ (.f k (fint k n)) := by
  intro S μ a h
  obtain ⟨d, hs⟩ := hs
  have h1 := opnd h (x := x) (by simp [ho, Op.operands]) hx
  simp only [V] at h1
  refine ⟨.float k (k.nearest n), fun w _ => ?_, by simp only [V]; exact ⟨_, rfl, encode_FR k rfl⟩⟩
  cases d <;> simp [execOp, ho, h1, convert, run_underlying hs, run_underlying hd, Conv.intToFloat]
end
end Go.AM
