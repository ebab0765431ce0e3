/- The abstract layer, part 1. -/
import Derived.ArgAppend
import Derived.Lib.Bytealg
import Derived.Laws.BytesArg
import Derived.Lib.ConvBytes
import Derived.Lib.AtoiErrMem
import Derived.Laws.AppendOwn
import Derived.Laws.FloatArith
import Derived.Laws.StructEq
import Derived.MapKept
import Derived.Maps.RangeRun
import Derived.Test.YtfhbfpdeafpelaaAm0
set_option linter.unusedVariables false
namespace Go.AM
def fabs (x : F) : F := x.map fun b => b % 2 ^ 63
section words
open Ieee
theorem read_neg {f : Format} (hw : f = single ∨ f = double) {b : Nat} (hb : b < 2 ^ f.width) : (f.read (b ^^^ f.signWeight)).isNaN = (f.read b).isNaN ∧ b ^^^ f.signWeight < 2 ^ f.width := by
 have hx : ∀ (e b : Nat), b < 2 ^ (e + 1) → (b ^^^ 2 ^ e) % 2 ^ e = b % 2 ^ e ∧ b ^^^ 2 ^ e < 2 ^ (e + 1) := by
  intro e b hb
  refine ⟨?_, Nat.xor_lt_two_pow hb (Nat.pow_lt_pow_right (by omega) (by omega))⟩
  apply Nat.eq_of_testBit_eq
  intro i
  simp only [Nat.testBit_mod_two_pow, Nat.testBit_xor, Nat.testBit_two_pow]
  by_cases h : i < e
  ·simp [h, show ¬ e = i by omega]
  ·simp [h]
 rcases hw with rfl | rfl
 ·have h := hx 31 b hb
  refine ⟨?_, h.2⟩
  have hs : single.signWeight = 2 ^ 31 := rfl
  simp only [Format.read, hs]
  rw [h.1]
  split
  ·rfl
  ·split
   ·rfl
   ·split <;> rfl
 ·have h := hx 63 b hb
  refine ⟨?_, h.2⟩
  have hs : double.signWeight = 2 ^ 63 := rfl
  simp only [Format.read, hs]
  rw [h.1]
  split
  ·rfl
  ·split
   ·rfl
   ·split <;> rfl
theorem FR.neg {k : FloatKind} {b : Nat} {c : F} (h : FR k b c) : FR k (Op.negFloat k b) (fneg k c) := by
 have hk : k.format = single ∨ k.format = double := by cases k <;> simp [FloatKind.format]
 have hs : 2 ^ (k.format.exponentBits + k.format.fractionBits) = k.format.signWeight := rfl
 cases c with
 | none =>
  obtain ⟨h1, h2⟩ := h
  have := read_neg hk h1
  exact ⟨by unfold Op.negFloat; rw [hs]; exact this.2, by unfold Op.negFloat; rw [hs, this.1]; exact h2⟩
 | some c =>
  obtain ⟨rfl, h1, h2⟩ := h
  have := read_neg hk h1
  exact ⟨rfl, by unfold Op.negFloat; rw [hs]; exact this.2, by unfold Op.negFloat; rw [hs, this.1]; exact h2⟩
theorem FR.abs {b : Nat} {c : F} (h : FR .f64 b c) : FR .f64 (b % 2 ^ 63) (fabs c) := by
 have hb : b % 2 ^ 63 < 2 ^ FloatKind.f64.format.width := Nat.lt_of_lt_of_le (Nat.mod_lt b (by omega)) (by decide)
 have hr : (double.read (b % 2 ^ 63)).isNaN = (double.read b).isNaN := by
  have hs : double.signWeight = 2 ^ 63 := rfl
  simp only [Format.read, hs, Nat.mod_mod]
  split
  ·rfl
  ·split
   ·rfl
   ·split <;> rfl
 cases c with
 | none => exact ⟨hb, hr.trans h.2⟩
 | some c => obtain ⟨rfl, h1, h2⟩ := h; exact ⟨rfl, hb, hr.trans h2⟩
theorem rung_aux (A B : Nat) (hA : A ≤ 1149) (hB : B < 2 ^ 53) : min (A * 4503599627370496 + B) 9218868437227405312 < 9218868437227405312 := by
 have h4 : A * 4503599627370496 ≤ 1149 * 4503599627370496 := Nat.mul_le_mul_right _ hA
 exact Nat.lt_of_le_of_lt (Nat.min_le_left _ _) (Nat.lt_of_lt_of_le (Nat.add_lt_add_of_le_of_lt h4 hB) (by decide))
theorem widen_finite {b : Nat} {s : Bool} {m : Nat} {e : Int} (h : FloatKind.f32.decode b = .number s m e) : (FloatKind.f64.decode (FloatKind.f64.encode (.number s m e))).isInfinity = false := by
 have hm : m < 2 ^ 24 ∧ -149 ≤ e ∧ e ≤ 104 := by
  have h' : single.read b = .number s m e := h
  have hs : single.signWeight = 2147483648 := rfl
  have hbn : single.binade = 8388608 := rfl
  have hi : single.infRung = 2139095040 := rfl
  have hl : single.leastPlace = -149 := rfl
  simp only [Format.read, hs, hbn, hi, hl] at h'
  split at h'
  ·simp at h'; omega
  ·split at h'
   ·simp at h'; omega
   ·split at h' <;> simp at h'
 show (double.read (double.nearest s m e)).isInfinity = false
 have key : ∀ rung, rung < double.infRung → (double.read (double.word s rung)).isInfinity = false := by
  intro rung hr
  have h1 := double.infRung_lt
  have h2 : double.word s rung % double.signWeight = rung := by
   unfold Format.word
   split
   ·rw [Nat.add_mod_left]; exact Nat.mod_eq_of_lt (by omega)
   ·exact Nat.mod_eq_of_lt (by omega)
  simp only [Format.read, h2]
  split
  ·rfl
  ·first | rfl | (rw [if_pos hr]; rfl)
 have hi : double.infRung = 9218868437227405312 := rfl
 have hbn : double.binade = 4503599627370496 := rfl
 have hl : double.leastPlace = -1074 := rfl
 have hf : double.fractionBits = 52 := rfl
 unfold Format.nearest
 split
 ·exact key 0 (by rw [hi]; omega)
 ·rename_i hm0
  have hlog : m.log2 ≤ 23 := by
   have := (Nat.log2_lt hm0).2 hm.1
   omega
  have hlt : m < 2 ^ (m.log2 + 1) := Nat.lt_log2_self
  simp only [hbn, hl, hf]
  have hlast : max (e + (m.log2 : Int) - ((52 : Nat) : Int)) (-1074) = e + (m.log2 : Int) - 52 := by omega
  rw [hlast]
  have h1 : (e - (e + (m.log2 : Int) - 52)).toNat = 52 - m.log2 := by omega
  have h2 : (e + (m.log2 : Int) - 52 - e).toNat = 0 := by omega
  rw [h1, h2]
  have hsh : m <<< (52 - m.log2) < 2 ^ 53 := by
   rw [Nat.shiftLeft_eq]
   have : m * 2 ^ (52 - m.log2) < 2 ^ (m.log2 + 1) * 2 ^ (52 - m.log2) := Nat.mul_lt_mul_of_pos_right hlt (Nat.two_pow_pos _)
   rw [← Nat.pow_add] at this
   rw [show m.log2 + 1 + (52 - m.log2) = 53 from by omega] at this
   exact this
  have hcut : Toward.even.cut s (m <<< (52 - m.log2)) 0 = m <<< (52 - m.log2) := by
   simp [Toward.cut, Nat.mod_one]
  rw [hcut]
  refine key _ ?_
  rw [hi]
  have h3 : (e + (m.log2 : Int) - 52 - -1074).toNat ≤ 1149 := by omega
  exact rung_aux _ _ h3 hsh
theorem nan_cut_conv {k : FloatKind} (x t : Nat) : FR k ((Question.nanConv k x).cut t) none := by
 have : (Question.nanConv k x).cut t = (Question.nanBits k x x).cut t := by cases k <;> rfl
 rw [this]; exact nan_cut x x t
theorem run_widen {P : Program} {b : Nat} {c : F} (h : FR .f32 b c) (w : World) : ∃ r w', (Conv.floatToFloat .f32 b .f64).run P w = .ok (.float .f64 r) w' ∧ FR .f64 r (fwiden c) ∧ Grow w w' := by
 have hd : ¬ FloatKind.f32 = FloatKind.f64 := by decide
 cases c with
 | none =>
  obtain ⟨h1, h2⟩ := h
  have h2' : (FloatKind.f32.decode b).isNaN = true := h2
  cases hdec : FloatKind.f32.decode b with
  | number s m e => rw [hdec] at h2'; cases h2'
  | infinity s => rw [hdec] at h2'; cases h2'
  | nan s t =>
   refine ⟨_, { w with drawn := w.drawn + 1 }, ?_, nan_cut_conv b (w.tape w.drawn (.nanConv .f64 b)), ⟨Nat.le_refl _, fun _ _ => rfl, rfl, rfl, rfl⟩⟩
   simp [Conv.floatToFloat, hdec, Question.forced]
 | some c =>
  obtain ⟨rfl, h1, h2⟩ := h
  have h2' : (FloatKind.f32.decode b).isNaN = false := h2
  refine ⟨FloatKind.f64.encode (FloatKind.f32.decode b), w, ?_, encode_FR .f64 h2', Grow.refl w⟩
  cases hdec : FloatKind.f32.decode b with
  | number s m e =>
   have := widen_finite hdec
   simp [Conv.floatToFloat, hdec, this]
  | infinity s => simp [Conv.floatToFloat, hdec]
  | nan s t => rw [hdec] at h2'; cases h2'
end words
section
variable {P : Program} {o : Oper} {τ : List (Nat × AV)} {Γ : List Ob}
theorem TOp.widen {src dst : TypeId} {x : Operand} {c : F} (hs : ∃ d, P.underlying src = some d) (hd : P.underlying dst = some (.float .f64)) (ho : o.op = .convert src dst x) (hx : OpF τ x .f32 c) : TOp P o τ Γ (.f64 (fwiden c)) [] := by
 intro S μ Γ2 a w _ _ hw h next Q hn
 obtain ⟨d, hs⟩ := hs
 obtain ⟨b, e1, f1⟩ := hx S μ a (h x (by simp [ho, Op.operands]))
 obtain ⟨r, w', hrun, hr, hg⟩ := run_widen (P := P) f1 w
 unfold Oper.wp
 have : (execOp a.eval o).run P w = .ok (.value (.float .f64 r)) w' := by
  cases d <;> simp [execOp, ho, e1, convert, run_underlying hs, run_underlying hd, hrun]
 rw [this]
 exact hn S μ _ w' (SExt.refl S) (SFresh.refl _ S) (MuStep.refl _ _ _) (hw.grow hg) (by simp only [V]; exact ⟨r, rfl, hr⟩) hg
theorem LOp.fneg {t : TypeId} {x : Operand} {k : FloatKind} {c : F} (ho : o.op = .unOp .neg t x) (hx : OpF τ x k c) : LOp P o τ (.f k (AM.fneg k c)) := by
 intro S μ a h
 obtain ⟨b, e1, f1⟩ := hx S μ a (h x (by simp [ho, Op.operands]))
 exact ⟨.float k (Op.negFloat k b), fun w _ => by simp [execOp, ho, e1, Op.unary], by simp only [V]; exact ⟨_, rfl, f1.neg⟩⟩
theorem LOp.fbits {f : FuncId} {k : FloatKind} {ik : IntKind} {x : Operand} {tys : Array TypeId} {c : F} (hc : ∀ b w, (callFunc f #[.float k b]).run P w = .ok (.value (.int ik b)) w) (ho : o.op = .call { callee := .value (.func f), args := #[x], argTypes := tys }) (hx : OpF τ x k c) : LOp P o τ (.bt k ik c) := by
 intro S μ a h
 obtain ⟨b, e1, f1⟩ := hx S μ a (h x (by simp [ho, Op.operands, Call.operands]))
 refine ⟨.int ik b, fun w _ => ?_, by simp only [V]; exact ⟨b, rfl, f1⟩⟩
 have hfe : a.eval (.func f) = .func (.func f) #[] #[] := rfl
 simp [execOp, ho, resolve, hfe, e1, Deferred.ofValue, invoke, hc]
theorem andNot_sign {b : Nat} : (BitVec.ofInt 64 (b : Int) &&& ~~~ BitVec.ofInt 64 9223372036854775808).toNat = b % 2 ^ 63 := by
 have h1 : BitVec.ofInt 64 (b : Int) = BitVec.ofNat 64 b := by simp
 have h2 : BitVec.ofInt 64 9223372036854775808 = BitVec.ofNat 64 9223372036854775808 := by decide
 rw [h1, h2]
 apply Nat.eq_of_testBit_eq
 intro i
 have h3 : ~~~ (BitVec.ofNat 64 9223372036854775808) = BitVec.ofNat 64 9223372036854775807 := by decide
 rw [h3]
 simp only [BitVec.toNat_and, BitVec.toNat_ofNat, Nat.testBit_and, Nat.testBit_mod_two_pow]
 rw [show (9223372036854775807 : Nat) = 2 ^ 63 - 1 from rfl, Nat.testBit_two_pow_sub_one]
 by_cases h : i < 63
 ·simp [h, show i < 64 by omega]
 ·simp [h]
theorem LOp.andNot_bt {t ty : TypeId} {x y : Operand} {c : F} (ho : o.op = .binOp .andNot t x y ty) (hx : ev τ x = .bt .f64 .u64 c) (hy : ev τ y = .x (.int .u64 9223372036854775808)) : LOp P o τ (.bt .f64 .u64 (fabs c)) := by
 intro S μ a h
 have h1 := opnd h (x := x) (by simp [ho, Op.operands]) hx
 have h2 := opnd h (x := y) (by simp [ho, Op.operands]) hy
 simp only [V] at h1 h2
 obtain ⟨b, h1, hf⟩ := h1
 have hb : b < 2 ^ 64 := by
  cases c with
  | none => exact hf.1
  | some c => obtain ⟨rfl, h, _⟩ := hf; exact h
 refine ⟨.int .u64 ((b % 2 ^ 63 : Nat) : Int), fun w _ => ?_, by simp only [V]; exact ⟨_, rfl, hf.abs⟩⟩
 have hw : IntKind.u64.wrap ((b % 2 ^ 63 : Nat) : Int) = ((b % 2 ^ 63 : Nat) : Int) := by
  have : b % 2 ^ 63 < 2 ^ 63 := Nat.mod_lt _ (by omega)
  simp only [IntKind.wrap, IntKind.bits, IntKind.signed]
  simp
  omega
 have hk := andNot_sign (b := b)
 have : (Op.intBits .andNot .u64 (b : Int) 9223372036854775808).run P w = .ok (.int .u64 ((b % 2 ^ 63 : Nat) : Int)) w := by
  show Result.ok (Value.int .u64 (IntKind.u64.wrap ((BitVec.ofInt 64 (b : Int) &&& ~~~ BitVec.ofInt 64 9223372036854775808).toNat : Int))) w = _
  rw [hk, hw]
 simp [execOp, ho, h1, h2, eqGuard, binOp, this]
theorem LOp.ffrom {f : FuncId} {k : FloatKind} {ik : IntKind} {x : Operand} {tys : Array TypeId} {c : F} (hc : ∀ (b : Nat) w, (callFunc f #[.int ik b]).run P w = .ok (.value (.float k b)) w) (ho : o.op = .call { callee := .value (.func f), args := #[x], argTypes := tys }) (hx : ev τ x = .bt k ik c) : LOp P o τ (.f k c) := by
 intro S μ a h
 have h1 := opnd h (x := x) (by simp [ho, Op.operands, Call.operands]) hx
 simp only [V] at h1
 obtain ⟨b, e1, f1⟩ := h1
 refine ⟨.float k b, fun w _ => ?_, by simp only [V]; exact ⟨b, rfl, f1⟩⟩
 have hfe : a.eval (.func f) = .func (.func f) #[] #[] := rfl
 simp [execOp, ho, resolve, hfe, e1, Deferred.ofValue, invoke, hc]
end
end Go.AM

namespace Go.AM
section
variable {P : Program} {N : Nat} {all : Array Oper} {o : Oper} {rest : List Oper} {τ τ' : List (Nat × AV)} {Γ Γ' : List Ob} {Q : PQ} {r : AV} {fs : List (Nat × List AV)} {fss : List (List (Nat × List AV))} {bs : List Bool}
theorem ROps.l {d : Nat} (hw : wantT all τ o = some true) (hd : o.dst = some d) (hN : Nat.blt d (N / 2) = true) (hl : LOp P o τ r) (h : ROps P N all rest ((d, r) :: τ) Γ Q) : ROps P N all (o :: rest) τ Γ Q :=
 ROps.op hw (hl.top.rop (by simp only [dstLt, hd]; simpa using hN) (by rw [hd]; exact h))
theorem ROps.d {d : Nat} (hw : wantT all τ o = some true) (hd : o.dst = some d) (hN : Nat.blt d (N / 2) = true) (ht : TOp P o τ Γ r fs) (hΓ : fillOb Γ fs = Γ') (h : ROps P N all rest ((d, r) :: τ) Γ' Q) : ROps P N all (o :: rest) τ Γ Q :=
 ROps.op hw (ht.rop (by simp only [dstLt, hd]; simpa using hN) (by rw [hd, hΓ]; exact h))
theorem ROps.s {d : Nat} (hw : wantT all τ o = some false) (hd : o.dst = some d) (hN : Nat.blt d (N / 2) = true) (h : ROps P N all rest ((d, .x undef) :: τ) Γ Q) : ROps P N all (o :: rest) τ Γ Q :=
 ROps.skip hw (by simp only [dstLt, hd]; simpa using hN) (by rw [hd]; exact h)
theorem TRun.l {d : Nat} (hw : wantT all τ o = some true) (hd : o.dst = some d) (hl : LOp P o τ r) (h : TRun P all Γ rest ((d, r) :: τ) τ' fss bs) : TRun P all Γ (o :: rest) τ τ' ([] :: fss) (false :: bs) :=
 TRun.op hw hl.top (by rw [hd]; exact h)
theorem TRun.d {d : Nat} (hw : wantT all τ o = some true) (hd : o.dst = some d) (ht : TOp P o τ Γ r fs) (h : TRun P all Γ rest ((d, r) :: τ) τ' fss bs) : TRun P all Γ (o :: rest) τ τ' (fs :: fss) (false :: bs) :=
 TRun.op hw ht (by rw [hd]; exact h)
theorem TRun.s {d : Nat} (hw : wantT all τ o = some false) (hd : o.dst = some d) (h : TRun P all Γ rest ((d, .x undef) :: τ) τ' fss bs) : TRun P all Γ (o :: rest) τ τ' ([] :: fss) (false :: bs) :=
 TRun.skip hw (by rw [hd]; exact h)
theorem RunC.region_draw {id : Nat} {l : List Oper} (n : Nat) (hm : P.follows .mixedOrders = true) (ht : TRun P l.toArray Γ (l.take n) τ τ' fss bs) (hn : bs.length = n) (hok : drawOk l.toArray bs = true) (hdst : (l.take n).all (dstLt N) = true) (hfl : fillsOk Γ fss.flatten) (hΓ : fillOb Γ fss.flatten = Γ')
  (h : ROps P N l.toArray (l.drop n) τ' Γ' (np Q)) : RunC P N (.region id l.toArray true) τ Γ Q := RunC.draw n hm ht hn hok hdst hfl (by rw [hΓ]; exact h)
theorem RunC.regionW {id : Nat} {l : List Oper} (h : ROps P N l.toArray l τ Γ Q) : RunC P N (.region id l.toArray false) τ Γ Q := RunC.region h
theorem fills_nil : fillsOk Γ [] := ⟨by simp, by simp⟩
theorem Ev.start {f : FuncId} {fn : Func} {c : Code} {args : List AV} {r : AV} {τ : List (Nat × AV)} (hf : P.funcs[f]? = some fn) (hb : fn.body = some c) (hN : Nat.ble args.length fn.ntmps = true) (k : Nat) (hτ : argClaims 0 args = τ) (hΓ : Γ ++ List.replicate k ⟨0, none⟩ = Γ')
  {Γo : List Ob} {n : Nat} (hn : n / 2 = fn.ntmps) {g : Nat} (hg : Γ.length = g) (hz : n % 2 = 1 → g = 0) (h : RunC P n c τ Γ' (bodyQ P fn g r Γo)) : Ev P f args Γ r Γo := by
 subst hg; subst hτ; subst hΓ
 exact Ev.of_run hf hb (Nat.le_of_ble_eq_true hN) hn hz (RunC.room k h)
end
end Go.AM

namespace Go.AM
section
variable {P : Program} {o : Oper} {τ : List (Nat × AV)} {Γ : List Ob}
theorem LOp.eqb {b b' : Bool} (h : LOp P o τ (.b b)) (e : b = b') : LOp P o τ (.b b') := e ▸ h
theorem TOp.eqb {b b' : Bool} {fs : List (Nat × List AV)} (h : TOp P o τ Γ (.b b) fs) (e : b = b') : TOp P o τ Γ (.b b') fs := e ▸ h
def newNames (ns : List Nat) (Γ : List Ob) : List (Nat × Nat) := ns.map fun p => (p, match Γ[p]? with | some g => g.ver + 1 | none => 0)
theorem TOp.new_core {S : Snap} {μ : List Mu} {Γ2 : List Ob} {w : World} (hw : WI S μ Γ2 w) {S' : Snap} {μ' : List Mu} {w' : World} {ls : List (List AV)} {ns : List Nat}
  (hfr : FrI S [] w S' μ' w') (hw' : WI S' μ' (ls.map fun l => ⟨0, some l⟩) w') (hl0 : ls.all (AV.lts 0) = true) (hlen : ns.length = ls.length) (hnd : ns.Nodup) (hns : ∀ p ∈ ns, ∃ ver, Γ2[p]? = some ⟨ver, none⟩)
  {Sx : Snap} (hx : SExt S Sx) (hxf : SFresh w.heap.size S Sx) (hxs : SnapOK Sx w') (hxS : (∀ b, Sx b = none ∨ Sx b = S' b)) (hVP : ∀ l ∈ ls, ∀ vs, VP S' [] l vs → VP Sx [] l vs) :
  ∃ μ'', MuStep w.heap.size (ns.zip ls) μ μ'' ∧ WI Sx μ'' (fillOb Γ2 (ns.zip ls)) w' ∧ ∀ (i : Nat) (m' : Mu), μ'[i]? = some m' → Shift (sigma (newNames ns Γ2) i).2 (some m') μ''[(sigma (newNames ns Γ2) i).1]? := by
 have hg := hfr.toGrow
 have hl1 : μ'.length = ls.length := by rw [hw'.len]; simp
 have hfst : ((ns.zip ls).map (·.1)) = ns := List.map_fst_zip (by omega)
 -- the new entries
 let μ'' : List Mu := (ns.zip μ').foldl (fun μ p => μ.set p.1 { p.2 with ver := p.2.ver + (match Γ2[p.1]? with | some g => g.ver + 1 | none => 0) }) μ
 have hzip : ((ns.zip μ').map fun p => p.1) = ns := List.map_fst_zip (by omega)
 have hlt : ∀ p ∈ ns, p < μ.length := by
  intro p hp
  obtain ⟨ver, h⟩ := hns p hp
  rw [hw.len]; exact lt_of_getElem? h
 have hat : ∀ (i p : Nat) (m' : Mu), ns[i]? = some p → μ'[i]? = some m' → μ''[p]? = some { m' with ver := m'.ver + (match Γ2[p]? with | some g => g.ver + 1 | none => 0) } := by
  intro i p m' hp hm'
  have hz : (ns.zip μ')[i]? = some (p, m') := by rw [List.getElem?_zip_eq_some]; exact ⟨hp, hm'⟩
  exact foldl_set_at (f := fun p : Nat × Mu => p.1) (g := fun p => ({ p.2 with ver := p.2.ver + (match Γ2[p.1]? with | some g => g.ver + 1 | none => 0) } : Mu)) (by rw [hzip]; exact hnd) hz (hlt p (List.mem_of_getElem? hp))
 have hnot : ∀ i : Nat, i ∉ ns → μ''[i]? = μ[i]? := by
  intro i hi
  exact foldl_set_ne fun p hp e => hi (by rw [← e]; exact (List.of_mem_zip hp).1)
 have hmver : ∀ (i : Nat) (m' : Mu), μ'[i]? = some m' → m'.ver = 0 := by
  intro i m' hm'
  obtain ⟨l, hl⟩ := getElem?_of_lt (l := ls) (i := i) (by rw [← hl1]; exact lt_of_getElem? hm')
  exact hw'.ver i ⟨0, some l⟩ m' (by rw [List.getElem?_map, hl]; rfl) hm'
 have hidx : ∀ p, p ∈ ns → ∃ i, ns[i]? = some p := fun p hp => by
  obtain ⟨i, hi, e⟩ := List.mem_iff_getElem.1 hp
  exact ⟨i, by rw [List.getElem?_eq_getElem hi, e]⟩
 have hμ'at : ∀ (i p : Nat), ns[i]? = some p → ∃ m', μ'[i]? = some m' := fun i p hp => getElem?_of_lt (by rw [hl1, ← hlen]; exact lt_of_getElem? hp)
 have hnewblk : ∀ (i : Nat) (m' : Mu) (b : Nat), μ'[i]? = some m' → m'.blk = some b → w.heap.size ≤ b := by
  intro i m' b hm' hb
  rcases hfr.new i m' b hm' hb with ⟨m0, h0, _⟩ | h
  ·simp at h0
  ·exact h
 have hM : MuLe w.heap.size μ μ'' := by
  intro i m hm
  by_cases hi : i ∈ ns
  ·obtain ⟨j, hj⟩ := hidx i hi
   obtain ⟨m', hm'⟩ := hμ'at j i hj
   obtain ⟨ver, hv⟩ := hns i hi
   have := hw.ver i _ m hv hm
   refine ⟨_, hat j i m' hj hm', ?_⟩
   simp only [hv]
   replace this : m.ver = ver := this
   exact ⟨by show m.ver ≤ m'.ver + (ver + 1); omega, fun e => by replace e : m'.ver + (ver + 1) = m.ver := e; omega, fun b hb => .inr (hnewblk j m' b hm' hb)⟩
  ·exact ⟨m, by rw [hnot i hi]; exact hm, Nat.le_refl _, fun _ => rfl, fun _ hb => .inl hb⟩
 refine ⟨μ'', ⟨hM, fun i hi => hnot i fun hin => ?_, fun i m b hm hb => ?_⟩, ?_, ?_⟩
 ·obtain ⟨j, hj⟩ := hidx i hin
  obtain ⟨l, hl⟩ := getElem?_of_lt (l := ls) (i := j) (by rw [← hlen]; exact lt_of_getElem? hj)
  exact hi (i, l) (List.mem_of_getElem? (i := j) (by rw [List.getElem?_zip_eq_some]; exact ⟨hj, hl⟩)) rfl
 ·by_cases hi : i ∈ ns
  ·obtain ⟨j, hj⟩ := hidx i hi
   obtain ⟨m', hm'⟩ := hμ'at j i hj
   rw [hat j i m' hj hm'] at hm
   simp at hm; subst hm
   exact .inr (hnewblk j m' b hm' hb)
  ·rw [hnot i hi] at hm; exact .inl hm
 ·have hstay : ∀ (i ver : Nat) (l : List AV) (m : Mu) (b : Nat), Γ2[i]? = some ⟨ver, some l⟩ → μ[i]? = some m → m.blk = some b → b < w.heap.size ∧ w'.heap[b]? = w.heap[b]? ∧ Sx b = none := by
   intro i ver l m b hgi hm hb
   obtain ⟨cs, T, e1, e2, e3, e4⟩ := own_any hw hgi hm hb
   have hlt := (Array.getElem?_eq_some_iff.1 e1).1
   refine ⟨hlt, hg.block b hlt, ?_⟩
   cases hs : Sx b with
   | none => rfl
   | some c =>
    rcases hxf b c hs with h | h
    ·rw [e4] at h; cases h
    ·omega
  have hfillat : ∀ (j p : Nat) (l : List AV) (ver : Nat), ns[j]? = some p → ls[j]? = some l → Γ2[p]? = some ⟨ver, none⟩ → (fillOb Γ2 (ns.zip ls))[p]? = some ⟨ver + 1, some l⟩ := by
   intro j p l ver hp hl hv
   have := fillOb_at (Γ := Γ2) (f := (p, l)) (by rw [hfst]; exact hnd) (List.mem_of_getElem? (i := j) (by rw [List.getElem?_zip_eq_some]; exact ⟨hp, hl⟩))
   simpa [hv] using this
  have hfillne : ∀ i, i ∉ ns → (fillOb Γ2 (ns.zip ls))[i]? = Γ2[i]? := fun i hi => fillOb_ne fun f hf e => hi (by rw [← e]; exact (List.of_mem_zip hf).1)
  have hlat : ∀ (j p : Nat), ns[j]? = some p → ∃ l, ls[j]? = some l := fun j p hp => getElem?_of_lt (by rw [← hlen]; exact lt_of_getElem? hp)
  refine ⟨hxs, ?_, ?_, ?_, ?_⟩
  ·rw [fillOb_length, ← hw.len]; exact foldl_set_length
  ·intro i g m hgi hm
   by_cases hi : i ∈ ns
   ·obtain ⟨j, hj⟩ := hidx i hi
    obtain ⟨m', hm'⟩ := hμ'at j i hj
    obtain ⟨l, hl⟩ := hlat j i hj
    obtain ⟨ver, hv⟩ := hns i hi
    rw [hat j i m' hj hm'] at hm
    rw [hfillat j i l ver hj hl hv] at hgi
    simp only [hv, Option.some.injEq] at hm hgi
    subst hm; subst hgi
    have := hmver j m' hm'
    show m'.ver + (ver + 1) = ver + 1; omega
   ·rw [hnot i hi] at hm; rw [hfillne i hi] at hgi; exact hw.ver i g m hgi hm
  ·intro i ver l m hgi hm
   by_cases hi : i ∈ ns
   ·obtain ⟨j, hj⟩ := hidx i hi
    obtain ⟨m', hm'⟩ := hμ'at j i hj
    obtain ⟨l', hl'⟩ := hlat j i hj
    obtain ⟨ver', hv⟩ := hns i hi
    rw [hat j i m' hj hm'] at hm
    rw [hfillat j i l' ver' hj hl' hv] at hgi
    simp only [Option.some.injEq] at hm hgi
    subst hm
    injection hgi with _ h2
    simp only [Option.some.injEq] at h2
    subst h2
    have h0 := hw'.own j 0 l' m' (by rw [List.getElem?_map, hl']; rfl) hm'
    have hlts : AV.lts 0 l' = true := List.all_eq_true.1 hl0 l' (List.mem_of_getElem? hl')
    unfold OwnAt at h0 ⊢
    simp only
    split at h0
    ·exact h0
    ·rename_i b hb
     obtain ⟨k1, cs, T, k2, k3, k4⟩ := h0
     refine ⟨?_, cs, T, k2, k3, ?_⟩
     ·rcases hxS b with h | h
      ·exact h
      ·rw [h]; exact k1
     ·have h1 : VP S' [] l' cs.toList := by
       have := k4
       exact VP.unren (σ := fun i => (i, 0)) (k := 0) (μ := μ') (fun i hi => by omega) l' _ hlts (by rw [AV.rens_of_lt0 _ _ hlts]; exact this)
      have h2 := hVP l' (List.mem_of_getElem? hl') _ h1
      exact VP.unren (σ := fun i => (i, 0)) (k := 0) (μ := []) (fun i hi => by omega) l' _ hlts (by rw [AV.rens_of_lt0 _ _ hlts]; exact h2)
   ·rw [hnot i hi] at hm; rw [hfillne i hi] at hgi
    have h0 := hw.own i ver l m hgi hm
    unfold OwnAt at h0 ⊢
    split at h0
    ·exact h0
    ·rename_i b hb
     obtain ⟨k1, k2, k3⟩ := hstay i ver l m b hgi hm hb
     obtain ⟨_, cs, T, e1, e2, e3⟩ := h0
     exact ⟨k3, cs, T, k2.trans e1, e2, VP.mono hx hM l _ e3⟩
  ·intro i i' g g' m m' b hgi hs hgi' hs' hm hm' hb hb'
   by_cases hi : i ∈ ns
   ·obtain ⟨j, hj⟩ := hidx i hi
    obtain ⟨m1, hm1⟩ := hμ'at j i hj
    rw [hat j i m1 hj hm1] at hm; simp only [Option.some.injEq] at hm; subst hm
    have k1 := hnewblk j m1 b hm1 hb
    by_cases hi' : i' ∈ ns
    ·obtain ⟨j', hj'⟩ := hidx i' hi'
     obtain ⟨m1', hm1'⟩ := hμ'at j' i' hj'
     rw [hat j' i' m1' hj' hm1'] at hm'; simp only [Option.some.injEq] at hm'; subst hm'
     obtain ⟨l1, hl1'⟩ := hlat j i hj
     obtain ⟨l2, hl2'⟩ := hlat j' i' hj'
     have : j = j' := hw'.sep j j' ⟨0, some l1⟩ ⟨0, some l2⟩ m1 m1' b (by rw [List.getElem?_map, hl1']; rfl) rfl (by rw [List.getElem?_map, hl2']; rfl) rfl hm1 hm1' hb hb'
     subst this
     rw [hj] at hj'; simpa using hj'
    ·rw [hnot i' hi'] at hm'; rw [hfillne i' hi'] at hgi'
     obtain ⟨gv, gc⟩ := g'
     obtain ⟨l, rfl⟩ := Option.isSome_iff_exists.1 hs'
     have := (hstay i' gv l m' b hgi' hm' hb').1
     omega
   ·rw [hnot i hi] at hm; rw [hfillne i hi] at hgi
    obtain ⟨gv, gc⟩ := g
    obtain ⟨l, rfl⟩ := Option.isSome_iff_exists.1 hs
    have k1 := (hstay i gv l m b hgi hm hb).1
    by_cases hi' : i' ∈ ns
    ·obtain ⟨j', hj'⟩ := hidx i' hi'
     obtain ⟨m1', hm1'⟩ := hμ'at j' i' hj'
     rw [hat j' i' m1' hj' hm1'] at hm'; simp only [Option.some.injEq] at hm'; subst hm'
     have := hnewblk j' m1' b hm1' hb'
     omega
    ·rw [hnot i' hi'] at hm'; rw [hfillne i' hi'] at hgi'
     exact hw.sep i i' _ g' m m' b hgi hs hgi' hs' hm hm' hb hb'
 ·intro i m' hm'
  obtain ⟨p, hp⟩ : ∃ p, ns[i]? = some p := getElem?_of_lt (by rw [hlen, ← hl1]; exact lt_of_getElem? hm')
  obtain ⟨ver, hv⟩ := hns p (List.mem_of_getElem? hp)
  have : sigma (newNames ns Γ2) i = (p, ver + 1) := by simp [sigma, List.getD, newNames, hp, hv]
  rw [this, hat i p m' hp hm', hv]
  exact ⟨by simp, by simp⟩
theorem newNames_live {Γ Γ2 : List Ob} {ns : List Nat} {ls : List (List AV)} (hlen : ns.length = ls.length) (hd : ∀ f ∈ ns.zip ls, Γ2[f.1]? = Γ[f.1]?) : newNames ns Γ2 = newNames ns Γ := by
 apply List.map_congr_left
 intro p hp
 obtain ⟨i, hi, e⟩ := List.mem_iff_getElem.1 hp
 have : (p, ls[i]'(by omega)) ∈ ns.zip ls := List.mem_of_getElem? (i := i) (by rw [List.getElem?_zip_eq_some]; exact ⟨by rw [List.getElem?_eq_getElem hi, e], List.getElem?_eq_getElem (by omega)⟩)
 rw [hd _ this]
theorem TOp.callN {f : FuncId} {A : List AV} {r : AV} {ls : List (List AV)} (ns : List Nat) (hc : CallAs P o τ f A) (hA : AV.lts 0 A = true) (hev : Ev P f A [] r (ls.map fun l => ⟨0, some l⟩)) (hl0 : ls.all (AV.lts 0) = true) (hlen : ns.length = ls.length) (hnd : ns.Nodup) (hns : ∀ p ∈ ns, ∃ ver, Γ[p]? = some ⟨ver, none⟩) :
  TOp P o τ Γ (r.ren (sigma (newNames ns Γ))) (ns.zip ls) := by
 intro S μ Γ2 a w _ hd hw h next Q hn
 obtain ⟨vs, hrun, hvs⟩ := hc S μ a w h
 unfold Oper.wp
 rw [hrun, Oper.upon_enter]
 refine (hev S [] w vs ⟨hw.snap, rfl, by simp, by simp, by simp⟩ (VL.pure hA hvs)).mono ?_
 rintro e w' ⟨v, S', μ', rfl, hv, hw', hfr⟩
 have hns2 : ∀ p ∈ ns, ∃ ver, Γ2[p]? = some ⟨ver, none⟩ := by
  intro p hp
  obtain ⟨i, hi, e⟩ := List.mem_iff_getElem.1 hp
  have : (p, ls[i]'(by omega)) ∈ ns.zip ls := List.mem_of_getElem? (i := i) (by rw [List.getElem?_zip_eq_some]; exact ⟨by rw [List.getElem?_eq_getElem hi, e], List.getElem?_eq_getElem (by omega)⟩)
  rw [hd _ this]; exact hns p hp
 obtain ⟨μ'', h1, h2, h3⟩ := TOp.new_core hw hfr hw' hl0 hlen hnd hns2 hfr.ext hfr.sf hw'.snap (fun b => .inr rfl) (fun _ _ _ h => h)
 rw [newNames_live hlen hd] at h3
 exact hn S' μ'' v w' hfr.ext hfr.sf h1 h2 (V.ren h3 r v hv) hfr.toGrow
theorem TOp.callBN {f : FuncId} {A A' : List AV} {r : AV} {ls : List (List AV)} (ns : List Nat) (hc : CallAs P o τ f A) (hA : Bors Γ A A') (hs : r.nos = true) (hev : Ev P f A' [] r (ls.map fun l => ⟨0, some l⟩)) (hl0 : ls.all (AV.lts 0) = true) (hls : ls.all AV.noss = true) (hlen : ns.length = ls.length) (hnd : ns.Nodup) (hns : ∀ p ∈ ns, ∃ ver, Γ[p]? = some ⟨ver, none⟩) :
  TOp P o τ Γ (r.ren (sigma (newNames ns Γ))) (ns.zip ls) := by
 intro S μ Γ2 a w hL hd hw h next Q hn
 obtain ⟨vs, hrun, hvs⟩ := hc S μ a w h
 unfold Oper.wp
 rw [hrun, Oper.upon_enter]
 have hle := lend_lent hw
 refine (hev (lend S μ Γ2 w) [] w vs (lend_snap hw) (hA S μ Γ2 w _ vs.toList hL hw hle hvs)).mono ?_
 rintro e w' ⟨v, S', μ', rfl, hv, hw', hfr⟩
 have hg := hfr.toGrow
 have hns2 : ∀ p ∈ ns, ∃ ver, Γ2[p]? = some ⟨ver, none⟩ := by
  intro p hp
  obtain ⟨i, hi, e⟩ := List.mem_iff_getElem.1 hp
  have : (p, ls[i]'(by omega)) ∈ ns.zip ls := List.mem_of_getElem? (i := i) (by rw [List.getElem?_zip_eq_some]; exact ⟨by rw [List.getElem?_eq_getElem hi, e], List.getElem?_eq_getElem (by omega)⟩)
  rw [hd _ this]; exact hns p hp
 -- back to what was settled ahead of the call
 have hw0 : WI S' μ' (ls.map fun l => (⟨0, some l⟩ : Ob)) w' := hw'
 have hfr0 : FrI S [] w S' μ' w' ∨ True := .inr trivial
 have hfrS : FrI S [] w S μ' w' :=
  ⟨fun b c hb => hb, hfr.le, hfr.new, hfr.keep, hfr.size, hfr.os, hfr.tape, hfr.output, fun b c hb => .inl hb⟩
 have hwS : WI S μ' (ls.map fun l => (⟨0, some l⟩ : Ob)) w' := by
  refine ⟨fun b c hb => (hw.snap b c hb).elim fun T hT => hT.elim fun m hm => ⟨T, m, (hg.block b (snap_lt hw.snap hb)).trans hm⟩, hw'.len, hw'.ver, fun p ver l m hp hm => ?_, hw'.sep⟩
  have h0 := hw'.own p ver l m hp hm
  obtain ⟨l', hl', e⟩ : ∃ l', ls[p]? = some l' ∧ l' = l := by
   rw [List.getElem?_map] at hp
   cases hq : ls[p]? with
   | none => rw [hq] at hp; simp at hp
   | some l' => rw [hq] at hp; simp at hp; exact ⟨l', rfl, hp.2⟩
  subst e
  have hno : AV.noss l' = true := List.all_eq_true.1 hls l' (List.mem_of_getElem? hl')
  unfold OwnAt at h0 ⊢
  split at h0
  ·exact h0
  ·rename_i b hb
   obtain ⟨k1, cs, T, k2, k3, k4⟩ := h0
   refine ⟨?_, cs, T, k2, k3, VP.noS hno k4⟩
   cases hsb : S b with
   | none => rfl
   | some c =>
    have := (hle.ext.trans hfr.ext) b c hsb
    rw [k1] at this; cases this
 obtain ⟨μ'', h1, h2, h3⟩ := TOp.new_core hw hfrS hwS hl0 hlen hnd hns2 (SExt.refl S) (SFresh.refl _ S) hwS.snap (fun b => .inr rfl) (fun _ _ _ h => h)
 rw [newNames_live hlen hd] at h3
 exact hn S μ'' v w' (SExt.refl S) (SFresh.refl _ S) h1 h2 (V.ren h3 r v (V.noS r v hs hv)) hg
end
end Go.AM

namespace Go.AM
def obind {α β : Type} (x : Option α) (k : α → Option β) : Option β := x.bind k
def obind2 {α β γ : Type} (x : Option (α × β)) (k : α → β → Option γ) : Option γ := x.bind fun y => k y.1 y.2
def obind3 {α β γ δ : Type} (x : Option (α × β × γ)) (k : α → β → γ → Option δ) : Option δ := x.bind fun y => k y.1 y.2.1 y.2.2
def obind4 {α β γ δ ε : Type} (x : Option (α × β × γ × δ)) (k : α → β → γ → δ → Option ε) : Option ε := x.bind fun y => k y.1 y.2.1 y.2.2.1 y.2.2.2
def obind5 {α β γ δ ε ζ : Type} (x : Option (α × β × γ × δ × ε)) (k : α → β → γ → δ → ε → Option ζ) : Option ζ := x.bind fun y => k y.1 y.2.1 y.2.2.1 y.2.2.2.1 y.2.2.2.2
def obind6 {α β γ δ ε ζ η : Type} (x : Option (α × β × γ × δ × ε × ζ)) (k : α → β → γ → δ → ε → ζ → Option η) : Option η := x.bind fun y => k y.1 y.2.1 y.2.2.1 y.2.2.2.1 y.2.2.2.2.1 y.2.2.2.2.2
theorem obind_some {α β : Type} {x : Option α} {k : α → Option β} {r : β} (h : obind x k = some r) : ∃ a, x = some a ∧ k a = some r := Option.bind_eq_some_iff.1 h
theorem obind2_some {α β γ : Type} {x : Option (α × β)} {k : α → β → Option γ} {r : γ} (h : obind2 x k = some r) : ∃ a b, x = some (a, b) ∧ k a b = some r := by
 obtain ⟨⟨a, b⟩, h1, h2⟩ := Option.bind_eq_some_iff.1 h; exact ⟨a, b, h1, h2⟩
theorem obind3_some {α β γ δ : Type} {x : Option (α × β × γ)} {k : α → β → γ → Option δ} {r : δ} (h : obind3 x k = some r) : ∃ a b c, x = some (a, b, c) ∧ k a b c = some r := by
 obtain ⟨⟨a, b, c⟩, h1, h2⟩ := Option.bind_eq_some_iff.1 h; exact ⟨a, b, c, h1, h2⟩
theorem obind4_some {α β γ δ ε : Type} {x : Option (α × β × γ × δ)} {k : α → β → γ → δ → Option ε} {r : ε} (h : obind4 x k = some r) : ∃ a b c d, x = some (a, b, c, d) ∧ k a b c d = some r := by
 obtain ⟨⟨a, b, c, d⟩, h1, h2⟩ := Option.bind_eq_some_iff.1 h; exact ⟨a, b, c, d, h1, h2⟩
theorem obind5_some {α β γ δ ε ζ : Type} {x : Option (α × β × γ × δ × ε)} {k : α → β → γ → δ → ε → Option ζ} {r : ζ} (h : obind5 x k = some r) : ∃ a b c d e, x = some (a, b, c, d, e) ∧ k a b c d e = some r := by
 obtain ⟨⟨a, b, c, d, e⟩, h1, h2⟩ := Option.bind_eq_some_iff.1 h; exact ⟨a, b, c, d, e, h1, h2⟩
theorem obind6_some {α β γ δ ε ζ η : Type} {x : Option (α × β × γ × δ × ε × ζ)} {k : α → β → γ → δ → ε → ζ → Option η} {r : η} (h : obind6 x k = some r) : ∃ a b c d e f, x = some (a, b, c, d, e, f) ∧ k a b c d e f = some r := by
 obtain ⟨⟨a, b, c, d, e, f⟩, h1, h2⟩ := Option.bind_eq_some_iff.1 h; exact ⟨a, b, c, d, e, f, h1, h2⟩
@[simp] theorem obind_none {α β : Type} (k : α → Option β) : obind none k = none := rfl
@[simp] theorem obind_eq {α β : Type} (a : α) (k : α → Option β) : obind (some a) k = k a := rfl
@[simp] theorem obind2_eq {α β γ : Type} (a : α) (b : β) (k : α → β → Option γ) : obind2 (some (a, b)) k = k a b := rfl
@[simp] theorem obind3_eq {α β γ δ : Type} (a : α) (b : β) (c : γ) (k : α → β → γ → Option δ) : obind3 (some (a, b, c)) k = k a b c := rfl
@[simp] theorem obind4_eq {α β γ δ ε : Type} (a : α) (b : β) (c : γ) (d : δ) (k : α → β → γ → δ → Option ε) : obind4 (some (a, b, c, d)) k = k a b c d := rfl
@[simp] theorem obind5_eq {α β γ δ ε ζ : Type} (a : α) (b : β) (c : γ) (d : δ) (e : ε) (k : α → β → γ → δ → ε → Option ζ) : obind5 (some (a, b, c, d, e)) k = k a b c d e := rfl
@[simp] theorem obind6_eq {α β γ δ ε ζ η : Type} (a : α) (b : β) (c : γ) (d : δ) (e : ε) (f : ζ) (k : α → β → γ → δ → ε → ζ → Option η) : obind6 (some (a, b, c, d, e, f)) k = k a b c d e f := rfl
def bsel {α : Type} (c : Bool) (x y : Option α) : Option α := cond c x y
theorem bsel_some {α : Type} {c : Bool} {x y : Option α} {r : α} (h : bsel c x y = some r) : (c = true ∧ x = some r) ∨ (c = false ∧ y = some r) := by
 cases c
 ·exact .inr ⟨rfl, h⟩
 ·exact .inl ⟨rfl, h⟩
@[simp] theorem bsel_true {α : Type} (x y : Option α) : bsel true x y = x := rfl
@[simp] theorem bsel_false {α : Type} (x y : Option α) : bsel false x y = y := rfl
theorem bsel_if {α : Type} (c : Bool) (x y : Option α) : bsel c x y = if c = true then x else y := by cases c <;> rfl
def olet {α β : Type} (a : α) (k : α → Option β) : Option β := k a
theorem olet_some {α β : Type} {a : α} {k : α → Option β} {r : β} (h : olet a k = some r) : ∃ x, a = x ∧ k x = some r := ⟨a, rfl, h⟩
@[simp] theorem olet_eq {α β : Type} (a : α) (k : α → Option β) : olet a k = k a := rfl
def need {α : Type} (c : Bool) (x : Option α) : Option α := cond c x none
theorem need_some {α : Type} {c : Bool} {x : Option α} {r : α} (h : need c x = some r) : c = true ∧ x = some r := by
 cases c
 ·cases h
 ·exact ⟨rfl, h⟩
@[simp] theorem need_true {α : Type} (x : Option α) : need true x = x := rfl
@[simp] theorem need_false {α : Type} (x : Option α) : need false x = none := rfl
def osum {ε ρ α : Type} (x : ε ⊕ ρ) (k : ε → Option α) (j : ρ → Option α) : Option α := match x with
 | .inl e => k e
 | .inr r => j r
@[simp] theorem osum_inl {ε ρ α : Type} (e : ε) (k : ε → Option α) (j : ρ → Option α) : osum (.inl e) k j = k e := rfl
@[simp] theorem osum_inr {ε ρ α : Type} (r : ρ) (k : ε → Option α) (j : ρ → Option α) : osum (.inr r) k j = j r := rfl
inductive LR (σ ε ρ : Type) where
 | next (s : σ)
 | out (e : ε)
 | ret (r : ρ)
def iter {σ ε ρ : Type} (step : σ → Option (LR σ ε ρ)) : Nat → σ → Option (ε ⊕ ρ)
 | 0, _ => none
 | n + 1, s => match step s with
  | none => none
  | some (.next s') => iter step n s'
  | some (.out e) => some (.inl e)
  | some (.ret r) => some (.inr r)
theorem iter_det {σ ε ρ : Type} {step : σ → Option (LR σ ε ρ)} : ∀ {n m : Nat} {s : σ} {x y : ε ⊕ ρ}, iter step n s = some x → iter step m s = some y → x = y
 | 0, _, _, _, _, h, _ => by simp [iter] at h
 | _ + 1, 0, _, _, _, _, h => by simp [iter] at h
 | n + 1, m + 1, s, x, y, h, k => by
  simp only [iter] at h k
  split at h
  ·cases h
  ·rename_i e; rw [e] at k; exact iter_det h k
  ·rename_i e; rw [e] at k; rw [← Option.some.inj h, ← Option.some.inj k]
  ·rename_i e; rw [e] at k; rw [← Option.some.inj h, ← Option.some.inj k]
open Classical in
noncomputable def loopM {σ ε ρ : Type} (step : σ → Option (LR σ ε ρ)) (s : σ) : Option (ε ⊕ ρ) :=
 if h : ∃ x, ∃ n, iter step n s = some x then some h.choose else none
theorem loopM_iff {σ ε ρ : Type} {step : σ → Option (LR σ ε ρ)} {s : σ} {x : ε ⊕ ρ} : loopM step s = some x ↔ ∃ n, iter step n s = some x := by
 unfold loopM
 constructor
 ·intro h
  split at h
  ·rename_i hex
   obtain ⟨n, hn⟩ := hex.choose_spec
   rw [← Option.some.inj h]; exact ⟨n, hn⟩
  ·cases h
 ·rintro ⟨n, hn⟩
  have hex : ∃ x, ∃ n, iter step n s = some x := ⟨x, n, hn⟩
  rw [dif_pos hex]
  obtain ⟨m, hm⟩ := hex.choose_spec
  rw [iter_det hm hn]
theorem loopM_next {σ ε ρ : Type} {step : σ → Option (LR σ ε ρ)} {s s' : σ} (h : step s = some (.next s')) : loopM step s = loopM step s' := by
 apply Option.ext
 intro x
 rw [loopM_iff, loopM_iff]
 constructor
 ·rintro ⟨n, hn⟩
  cases n with
  | zero => simp [iter] at hn
  | succ n => simp only [iter, h] at hn; exact ⟨n, hn⟩
 ·rintro ⟨n, hn⟩
  exact ⟨n + 1, by simp only [iter, h]; exact hn⟩
theorem loopM_out {σ ε ρ : Type} {step : σ → Option (LR σ ε ρ)} {s : σ} {e : ε} (h : step s = some (.out e)) : loopM step s = some (.inl e) := by
 rw [loopM_iff]; exact ⟨1, by simp only [iter, h]⟩
theorem loopM_ret {σ ε ρ : Type} {step : σ → Option (LR σ ε ρ)} {s : σ} {r : ρ} (h : step s = some (.ret r)) : loopM step s = some (.inr r) := by
 rw [loopM_iff]; exact ⟨1, by simp only [iter, h]⟩
def at? {α : Type} (l : List α) (i : Int) : Option α := if 0 ≤ i then l[i.toNat]? else none
theorem at?_spec {α : Type} {l : List α} {i : Int} {a : α} (h : at? l i = some a) : 0 ≤ i ∧ i.toNat < l.length ∧ l[i.toNat]? = some a := by
 unfold at? at h
 split at h
 ·rename_i h0; exact ⟨h0, lt_of_getElem? h, h⟩
 ·cases h
def setAt? {α : Type} (l : List α) (i : Int) (a : α) : Option (List α) := if 0 ≤ i ∧ i.toNat < l.length then some (l.set i.toNat a) else none
theorem setAt?_spec {α : Type} {l l' : List α} {i : Int} {a : α} (h : setAt? l i a = some l') : 0 ≤ i ∧ i.toNat < l.length ∧ l' = l.set i.toNat a := by
 unfold setAt? at h
 split at h
 ·rename_i h0; exact ⟨h0.1, h0.2, (Option.some.inj h).symm⟩
 ·cases h
theorem setAt?_len {α : Type} {l l' : List α} {i : Int} {a : α} (h : setAt? l i a = some l') : l'.length = l.length := by
 obtain ⟨_, _, rfl⟩ := setAt?_spec h; simp
section
variable {P : Program} {N : Nat} {o : Oper} {τ : List (Nat × AV)} {Γ : List Ob} {Q : PQ}
theorem LOp.eqr {r r' : AV} (h : LOp P o τ r) (e : r = r') : LOp P o τ r' := e ▸ h
theorem TOp.eqr {r r' : AV} {fs : List (Nat × List AV)} (h : TOp P o τ Γ r fs) (e : r = r') : TOp P o τ Γ r' fs := e ▸ h
theorem RunC.cut {c : Code} {K : List (Nat × AV) → List Ob → Prop} (Mid : List (Nat × AV) → List Ob → Prop) (h1 : RunC P N c τ Γ (thenQ Mid Q)) (h2 : ∀ τ Γ, Mid τ Γ → K τ Γ) : RunC P N c τ Γ (thenQ K Q) := by
 refine h1.mono fun e τ Γ h => ?_
 cases e <;> first | exact h2 τ Γ h | exact h
theorem RunL.loopM {c : Code} {σ ε ρ : Type} {x : ε ⊕ ρ} (step : σ → Option (LR σ ε ρ)) (Fit : σ → List (Nat × AV) → List Ob → Prop)
  (h : ∀ s τ Γ y, Fit s τ Γ → step s = some y → (∀ e, y = .out e → x = .inl e) → (∀ r, y = .ret r → x = .inr r) → RunC P N c τ Γ (thenQ (fun τ Γ => ∃ s', y = .next s' ∧ Fit s' τ Γ) Q)) :
  ∀ s τ Γ, AM.loopM step s = some x → Fit s τ Γ → RunL P N c τ Γ Q := by
 have key : ∀ (n : Nat) (s : σ) (τ : List (Nat × AV)) (Γ : List Ob), iter step n s = some x → Fit s τ Γ → RunL P N c τ Γ Q := by
  intro n
  induction n with
  | zero => intro s τ Γ hn; simp [iter] at hn
  | succ n ih =>
   intro s τ Γ hn hf
   simp only [iter] at hn
   split at hn
   ·cases hn
   ·rename_i s' e
    refine RunL.step (RunC.cut _ (h s τ Γ _ hf e (fun _ h => by cases h) (fun _ h => by cases h)) ?_)
    rintro τ' Γ' ⟨s'', e', hf'⟩
    cases e'
    exact ih s' τ' Γ' hn hf'
   ·rename_i e1 e
    refine RunL.step (RunC.cut _ (h s τ Γ _ hf e (fun e2 h => by cases h; exact (Option.some.inj hn).symm) (fun _ h => by cases h)) ?_)
    rintro τ' Γ' ⟨s'', e', hf'⟩
    cases e'
   ·rename_i e1 e
    refine RunL.step (RunC.cut _ (h s τ Γ _ hf e (fun _ h => by cases h) (fun e2 h => by cases h; exact (Option.some.inj hn).symm)) ?_)
    rintro τ' Γ' ⟨s'', e', hf'⟩
    cases e'
 intro s τ Γ hl hf
 obtain ⟨n, hn⟩ := loopM_iff.1 hl
 exact key n s τ Γ hn hf
theorem lts0_map {α : Type} {f : α → AV} (hf : ∀ x, (f x).lt 0 = true) (l : List α) : AV.lts 0 (l.map f) = true := by
 induction l with
 | nil => rfl
 | cons a l ih => simp [AV.lts, hf, ih]
theorem noss_map {α : Type} {f : α → AV} (hf : ∀ x, (f x).nos = true) (l : List α) : AV.noss (l.map f) = true := by
 induction l with
 | nil => rfl
 | cons a l ih => simp [AV.noss, hf, ih]
theorem and_all {α : Type} {p : α → Bool} {a : α} {l : List α} (h : p a = true) (k : l.all p = true) : (a :: l).all p = true := by simp [h]; simpa using k
theorem LOp.ix {α : Type} {f : α → AV} {l : List α} {y : α} {t e : TypeId} {x ix : Operand} {k : IntKind} {i : Int} {n : Nat} (ht : ∀ w, (underlying t).run P w = .ok (.slice e) w) (he : ∀ w, (sizeOf e).run P w = .ok 1 w)
  (ho : o.op = .indexAddr t x ix) (hx : ev τ x = .sl n (l.map f)) (hn : l.length = n) (hi : ev τ ix = .x (.int k i)) (hy : at? l i = some y) : LOp P o τ (.ptr (f y :: (l.map f).drop (i.toNat + 1))) := by
 obtain ⟨h0, h1, h2⟩ := at?_spec hy
 refine LOp.indexAddr_sl ht he ho hx hi h0 (by omega) (fun e => by rw [List.map_eq_nil_iff] at e; subst e; simp at h1) ?_
 rw [List.drop_eq_getElem_cons (by simpa using h1)]
 congr 1
 rw [List.getElem?_eq_getElem h1] at h2
 rw [List.getElem_map, Option.some.inj h2]
end
end Go.AM

namespace Go.AM
section
variable {P : Program} {N : Nat} {o : Oper} {τ : List (Nat × AV)} {Γ : List Ob} {Q : PQ}
def ALe (a b : AV) : Prop := ∀ S μ v, V S μ a v → V S μ b v
theorem ALe.refl (a : AV) : ALe a a := fun _ _ _ h => h
theorem ALe.fl {k : FloatKind} {b : Nat} (hb : Nat.blt b (2 ^ k.format.width) = true) (hn : (k.format.read b).isNaN = false) : ALe (.x (.float k b)) (.f k (some b)) := by
 intro S μ v h
 simp only [V] at h ⊢
 exact ⟨b, h, rfl, by simpa using hb, hn⟩
theorem ALe.ptr {a : AV} {l : List AV} : ALe (.ptr (a :: l)) (.ptr [a]) := by
 intro S μ v hv
 simp only [V] at hv ⊢
 obtain ⟨b, off, cs, h1, h2, h3⟩ := hv
 exact ⟨b, off, cs, h1, h2, by simpa using h3.take 1⟩
theorem LOp.le {r r' : AV} (h : LOp P o τ r) (e : ALe r r') : LOp P o τ r' := fun S μ a hx => (h S μ a hx).elim fun v hv => ⟨v, hv.1, e S μ v hv.2⟩
theorem Bor.le {a b c : AV} (h : ALe a b) (k : Bor Γ b c) : Bor Γ a c := fun S μ Γ2 w Sb v h1 h2 h3 hv => k S μ Γ2 w Sb v h1 h2 h3 (h S μ v hv)
theorem Bor.sl {α : Type} {f : α → AV} (hf : ∀ x, (f x).lt 0 = true) {n : Nat} {l : List α} : Bor Γ (.sl n (l.map f)) (.sl n (l.map f)) := Bor.pure (lts0_map hf l)
theorem Bor.own {α : Type} {f : α → AV} (hf : ∀ x, (f x).lt 0 = true) {p ver n : Nat} {l : List α} (hp : Γ[p]? = some ⟨ver, some (l.map f)⟩) (hn : l.length = n) : Bor Γ (.oref p ver 0 n) (.sl l.length (l.map f)) := by
 subst hn
 exact Bor.oref hp (Bors.pure (lts0_map hf l)).p (by simp)
def ALes : List AV → List AV → Prop
 | [], [] => True
 | a :: l, b :: m => ALe a b ∧ ALes l m
 | _, _ => False
theorem ALes.vl : ∀ {l m : List AV}, ALes l m → ∀ {S : Snap} {μ : List Mu} {vs : List Value}, VL S μ l vs → VL S μ m vs
 | [], [], _, _, _, _, h => h
 | a :: l, b :: m, k, S, μ, vs, h => by
  cases vs with
  | nil => simp only [VL] at h
  | cons v vs =>
   simp only [VL] at h ⊢
   exact ⟨k.1 _ _ _ h.1, ALes.vl k.2 h.2⟩
 | [], _ :: _, k, _, _, _, _ => k.elim
 | _ :: _, [], k, _, _, _, _ => k.elim
def fillA (place : Nat → Option (Nat × Nat)) : List AV → List (Nat × List AV) → Option (List AV)
 | cells, [] => some cells
 | cells, (i, l) :: rest => match place i with
  | none => none
  | some (off, size) => if l.length = size ∧ off + l.length ≤ cells.length then fillA place (overlay cells off l) rest else none
def PartsOk (τ : List (Nat × AV)) : List (Nat × Operand) → List (Nat × List AV) → Prop
 | [], [] => True
 | (i, x) :: ps, (j, l) :: qs => i = j ∧ (∃ a, ALe (ev τ x) a ∧ a.cells? = some l) ∧ PartsOk τ ps qs
 | _, _ => False
theorem overlay_foldl {α : Type} (m : List α) : ∀ (k off : Nat) (cs : Array α), off + k + m.length ≤ cs.size →
  ((m.zipIdx k).foldl (fun cs (p : α × Nat) => cs.setIfInBounds (off + p.2) p.1) cs).toList = overlay cs.toList (off + k) m := by
 induction m with
 | nil => intro k off cs _; simp [overlay]
 | cons x m ih =>
  intro k off cs h
  simp only [List.length_cons] at h
  simp only [List.zipIdx_cons, List.foldl_cons]
  rw [ih (k + 1) off _ (by simp; omega)]
  rw [overlay_cons (by simp; omega)]
  simp [Nat.add_assoc]
theorem fill_ok {S : Snap} {μ : List Mu} {a : Act} (place : Nat → Option (Nat × Nat)) : ∀ (ps : List (Nat × Operand)) (qs : List (Nat × List AV)) (cells : List AV) (cs : Array Value) (r : List AV), PartsOk τ ps qs → (∀ p ∈ ps, V S μ (ev τ p.2) (a.eval p.2)) → VL S μ cells cs.toList → fillA place cells qs = some r →
  ∃ cs', Instr.fill place cs (ps.map fun p => (p.1, a.eval p.2)) = some cs' ∧ VL S μ r cs'.toList
 | [], [], cells, cs, r, _, _, hv, hf => by
  simp only [fillA, Option.some.injEq] at hf
  subst hf
  exact ⟨cs, rfl, hv⟩
 | (i, x) :: ps, (j, l) :: qs, cells, cs, r, hp, hx, hv, hf => by
  obtain ⟨rfl, ⟨b, h1, h2⟩, h3⟩ := hp
  simp only [fillA] at hf
  cases hpl : place i with
  | none => rw [hpl] at hf; cases hf
  | some os =>
   obtain ⟨off, size⟩ := os
   rw [hpl] at hf
   simp only at hf
   split at hf
   ·rename_i hc
    have h4 := (h1 _ _ _ (hx (i, x) (by simp))).cells h2
    have h5 : (a.eval x).cells.size = l.length := by rw [← Array.length_toList]; exact h4.length
    have h6 : cs.size = cells.length := by rw [← Array.length_toList]; exact hv.length
    have h7 := overlay_foldl (a.eval x).cells.toList 0 off cs (by simp [h5]; omega)
    have h8 : VL S μ (overlay cells off l) (overlay cs.toList off (a.eval x).cells.toList) := by
     refine VL.of_vp (hv.vp.overlay h4 hc.2) ?_
     simp only [overlay, List.length_append, List.length_take, List.length_drop, Array.length_toList, h5, h6]
    obtain ⟨cs', k1, k2⟩ := fill_ok place ps qs (overlay cells off l) ((a.eval x).cells.zipIdx.foldl (fun cs (c, j) => cs.setIfInBounds (off + j) c) cs) r h3 (fun p hp => hx p (by simp [hp])) (by
     have : ((a.eval x).cells.zipIdx.foldl (fun cs (c, j) => cs.setIfInBounds (off + j) c) cs).toList = overlay cs.toList off (a.eval x).cells.toList := by
      rw [← Array.foldl_toList, Array.toList_zipIdx]; simpa using h7
     rw [this]; exact h8) hf
    refine ⟨cs', ?_, k2⟩
    simp only [List.map_cons, Instr.fill, hpl]
    rw [if_neg (by simp [h5, hc.1]; omega)]
    exact k1
   ·cases hf
 | [], _ :: _, _, _, _, h, _, _, _ => h.elim
 | _ :: _, [], _, _, _, h, _, _, _ => h.elim
theorem LOp.build {t : TypeId} {parts : Array (Nat × Operand)} {fs : Array Field} {places : Array (Nat × Nat)} {z : Value} {zl r : List AV} {qs : List (Nat × List AV)} (hz : ∀ w, (zeroValue t).run P w = .ok z w) (hZ : ZeroOk zl z) (hs : ∀ w, (underlying t).run P w = .ok (.struct fs) w)
  (hpl : ∀ w, (fs.mapM fun f => Prod.mk f.offset <$> sizeOf f.type).run P w = .ok places w) (ho : o.op = .build t parts) (hps : PartsOk τ parts.toList qs) (hr : fillA (places[·]?) zl qs = some r) : LOp P o τ (.agg r) := by
 intro S μ a hx
 obtain ⟨cs', h1, h2⟩ := fill_ok (S := S) (μ := μ) (a := a) (places[·]?) parts.toList qs zl z.cells r hps (fun p hp => hx p.2 (by simp [ho, Op.operands]; exact ⟨p.1, by simpa using hp⟩)) (hZ S μ) hr
 refine ⟨.agg cs', fun w _ => ?_, ?_⟩
 ·simp [execOp, ho, Instr.build, hz, hs, hpl, h1]
 ·simp only [V]; exact ⟨cs', rfl, h2⟩
theorem TOp.buildSlice_o {t e : TypeId} {len : Nat} {parts : Array (Nat × Operand)} {z : Value} {za : AV} {r : List AV} {qs : List (Nat × List AV)} (p : Nat) {g : Ob} (hp : Γ[p]? = some g) (ht : ∀ w, (underlying t).run P w = .ok (.slice e) w) (hsz : ∀ w, (sizeOf e).run P w = .ok 1 w)
  (hz : ∀ w, (zeroValue e).run P w = .ok z w) (hzc : z.cells = #[z]) (hza : ∀ S μ, V S μ za z) (ho : o.op = .buildSlice t len parts) (hmax : Nat.ble len 16777216 = true) (hps : PartsOk τ parts.toList qs) (hr : fillA (fun i => some (i * 1, 1)) (List.replicate len za) qs = some r) :
  TOp P o τ Γ (.oref p (g.ver + 1) 0 len) [(p, r)] := by
 intro S μ Γ2 a w _ hd hw hx next Q hnx
 have hfill : ((Array.range (len * 1)).map fun i => (if len * 1 = 0 then (#[] : Array Value) else z.cells)[i % (if len * 1 = 0 then (#[] : Array Value) else z.cells).size]!) = (List.replicate len z).toArray := by
  apply Array.ext'
  simp only [Array.toList_map, Array.toList_range]
  apply List.ext_getElem?
  intro i
  simp only [List.getElem?_map, List.getElem?_replicate, Nat.mul_one]
  rcases Nat.lt_or_ge i len with hlt | hge
  ·have : ¬ len = 0 := by omega
   simp [hlt, hzc, Nat.mod_one, this]
  ·simp [Nat.not_lt.2 hge]
 have hzl : VL S μ (List.replicate len za) (List.replicate len z) := by
  clear hr hfill hmax
  induction len with
  | zero => simp only [List.replicate_zero, VL]
  | succ k ih => simp only [List.replicate_succ, VL]; exact ⟨hza S μ, by
    refine VL.of_vp ?_ (by simp)
    generalize k = k
    induction k with
    | zero => simp only [List.replicate_zero, VP]
    | succ k ih => simp only [List.replicate_succ, VP]; exact ⟨hza S μ, ih⟩⟩
 obtain ⟨cs', h1, h2⟩ := fill_ok (S := S) (μ := μ) (a := a) (fun i => some (i * 1, 1)) parts.toList qs (List.replicate len za) (List.replicate len z).toArray r hps (fun p hp => hx p.2 (by simp [ho, Op.operands]; exact ⟨p.1, by simpa using hp⟩)) (by simpa using hzl) hr
 have hrun : (execOp a.eval o).run P w = .ok (.value (.slice (some ⟨w.heap.size, 0, none⟩) len len)) (more w cs' e) := by
  have c1 : ¬ (len > 16777216) := by have := Nat.le_of_ble_eq_true hmax; omega
  by_cases hn0 : len = 0
  ·subst hn0
   simp only [Nat.zero_mul, List.replicate_zero] at h1 hfill
   simp [execOp, ho, Instr.buildSlice, ht, hsz, newRow, more]
   simp at h1
   rw [show Array.range 0 = #[] from by apply Array.ext'; simp]
   simp [h1]
  ·have h9 := hfill
   simp only [Nat.mul_one, if_neg hn0] at h9
   simp [execOp, ho, Instr.buildSlice, ht, hsz, newRow, more, c1, hn0, hz]
   simp at h9
   rw [h9]
   simp at h1
   simp [h1]
 unfold Oper.wp
 rw [hrun]
 have hp2 : Γ2[p]? = some g := (hd (p, r) (by simp)).trans hp
 obtain ⟨k1, k2⟩ := hw.fill_new (more_grow w cs' e) (es := 0) (l := r) (blk := some w.heap.size) (cs := cs') hp2 (fun b hb => by simp at hb; subst hb; exact ⟨Nat.le_refl _, more_new w _ e⟩) (by simp) h2.vp
 refine hnx S _ _ _ (SExt.refl S) (SFresh.refl _ S) k2 (by rw [fillOb_one hp2]; exact k1) ?_ (more_grow w _ e)
 have hml : p < μ.length := by rw [hw.len]; exact lt_of_getElem? hp2
 have hrl : r.length = len := by
  have : ∀ (qs : List (Nat × List AV)) (c r : List AV), fillA (fun i => some (i * 1, 1)) c qs = some r → r.length = c.length := by
   intro qs
   induction qs with
   | nil => intro c r h; simp only [fillA, Option.some.injEq] at h; rw [h]
   | cons q qs ih =>
    intro c r h
    obtain ⟨i, l⟩ := q
    simp only [fillA] at h
    split at h
    ·rename_i hc
     rw [ih _ _ h]
     simp only [overlay, List.length_append, List.length_take, List.length_drop]
     omega
    ·cases h
  simpa using this _ _ _ hr
 have hcl : cs'.size = len := by rw [← Array.length_toList, h2.length, hrl]
 simp only [V]
 refine ⟨_, _, _, by simp [hml]; rfl, Nat.le_refl _, rfl, fun _ => ?_⟩
 simp [hcl]
end
end Go.AM

namespace Go.AM
section
variable {P : Program} {N : Nat} {o : Oper} {τ : List (Nat × AV)} {Γ : List Ob} {Q : PQ}
theorem WI.bump {S : Snap} {μ : List Mu} {w : World} (h : WI S μ Γ w) {p ver : Nat} {l : List AV} {m : Mu} (hp : Γ[p]? = some ⟨ver, some l⟩) (hm : μ[p]? = some m) :
  WI S (μ.set p { m with ver := ver + 1 }) (Γ.set p ⟨ver + 1, some l⟩) w ∧ MuLe 0 μ (μ.set p { m with ver := ver + 1 }) := by
 have hv := h.ver p _ m hp hm
 simp only at hv
 have hM : MuLe 0 μ (μ.set p { m with ver := ver + 1 }) := MuLe.set hm (by simp only; omega) fun b hb => .inl hb
 have hpl := lt_of_getElem? hp
 have hml := lt_of_getElem? hm
 have back : ∀ {i : Nat} {g : Ob} {m' : Mu}, (Γ.set p ⟨ver + 1, some l⟩)[i]? = some g → (μ.set p { m with ver := ver + 1 })[i]? = some m' → (i = p ∧ g = ⟨ver + 1, some l⟩ ∧ m' = { m with ver := ver + 1 }) ∨ (i ≠ p ∧ Γ[i]? = some g ∧ μ[i]? = some m') := by
  intro i g m' hg hm'
  by_cases e : p = i
  ·subst e
   simp [hpl] at hg; simp [hml] at hm'
   exact .inl ⟨rfl, hg.symm, hm'.symm⟩
  ·rw [List.getElem?_set_ne e] at hg hm'
   exact .inr ⟨fun h => e h.symm, hg, hm'⟩
 refine ⟨⟨h.snap, by simp [h.len], ?_, ?_, ?_⟩, hM⟩
 ·intro i g m' hg hm'
  rcases back hg hm' with ⟨rfl, rfl, rfl⟩ | ⟨_, hg, hm'⟩
  ·rfl
  ·exact h.ver i g m' hg hm'
 ·intro i v l' m' hg hm'
  rcases back hg hm' with ⟨rfl, e, rfl⟩ | ⟨_, hg, hm'⟩
  ·obtain ⟨rfl, rfl⟩ : v = ver + 1 ∧ l' = l := by simpa using e
   have := h.own i ver l' m hp hm
   unfold OwnAt at this ⊢
   simp only
   split at this
   ·exact this
   ·obtain ⟨k1, cs, T, k2, k3, k4⟩ := this
    exact ⟨k1, cs, T, k2, k3, VP.mono (SExt.refl S) hM _ _ k4⟩
  ·exact (h.own i v l' m' hg hm').mono hM
 ·intro i i' g g' m1 m1' b hg hs hg' hs' hm1 hm1' hb hb'
  rcases back hg hm1 with ⟨e1, e2, e3⟩ | ⟨_, hg1, hm2⟩
  ·rcases back hg' hm1' with ⟨e4, _, _⟩ | ⟨_, hg2, hm3⟩
   ·rw [e1, e4]
   ·subst e3; rw [e1]; exact h.sep p i' _ g' m m1' b hp rfl hg2 hs' hm hm3 hb hb'
  ·rcases back hg' hm1' with ⟨e4, e5, e6⟩ | ⟨_, hg2, hm3⟩
   ·subst e6; rw [e4]; exact h.sep i p g _ m1 m b hg1 hs hp rfl hm2 hm hb hb'
   ·exact h.sep i i' g g' m1 m1' b hg1 hs hg2 hs' hm2 hm3 hb hb'
def ReadAs (Γ : List Ob) (a : AV) (m : Nat) (ys : List AV) : Prop :=
 ys.length = m ∧ ∀ (S : Snap) (μ : List Mu) (w : World) (v : Value), WI S μ Γ w → V S μ a v →
  ∃ ad cap, v = .slice ad m cap ∧ (m = 0 ∨ ∃ b off us, ad = some ⟨b, off, none⟩ ∧ VL S μ ys us ∧ ∀ j u, us[j]? = some u → w.cell? ⟨b, off + j, none⟩ = some u)
theorem ReadAs.sl {n : Nat} {l : List AV} (hn : l.length = n) : ReadAs Γ (.sl n l) n l := by
 refine ⟨hn, fun S μ w v hw hv => ?_⟩
 simp only [V] at hv
 obtain ⟨a, cap, h1, h2, h3⟩ := hv
 refine ⟨a, cap, h1, ?_⟩
 rcases h3 with rfl | ⟨b, off, cs, h4, h5, h6⟩
 ·simp at hn; exact .inl hn.symm
 ·refine .inr ⟨b, off, (cs.toList.drop off).take l.length, h4, h6.vl_take, fun j u hj => ?_⟩
  obtain ⟨T, mm, hT⟩ := hw.snap b cs h5
  have hlt := lt_of_getElem? hj
  simp only [List.length_take] at hlt
  rw [List.getElem?_take, if_pos (by omega), List.getElem?_drop] at hj
  simp only [World.cell?, hT]
  simpa using hj
theorem ReadAs.own {p ver n : Nat} {l : List AV} (hp : Γ[p]? = some ⟨ver, some l⟩) (hn : l.length = n) : ReadAs Γ (.oref p ver 0 n) n l := by
 refine ⟨hn, fun S μ w v hw hv => ?_⟩
 simp only [V] at hv
 obtain ⟨m, a, cap, h1, h2, h3, h4⟩ := hv
 have h5 := h4 (hw.ver p _ m hp h1)
 refine ⟨a, cap, h3, ?_⟩
 cases hb : m.blk with
 | none => rw [hb] at h5; exact .inl h5.2.2
 | some b =>
  rw [hb] at h5
  obtain ⟨rfl, h6, h7, hmp⟩ := h5
  obtain ⟨cs, T, e1, e2, e3, e4⟩ := own_cells hw hp h1 hb hmp
  refine .inr ⟨b, 0, cs.toList.take l.length, rfl, e3.vl_take, fun j u hj => ?_⟩
  have hlt := lt_of_getElem? hj
  simp only [List.length_take] at hlt
  rw [List.getElem?_take, if_pos (by omega)] at hj
  simp only [World.cell?, e1, Nat.zero_add]
  simpa using hj
theorem VL.ones {S : Snap} {μ : List Mu} : ∀ (l : List AV) (vs : List Value), VL S μ l vs → l.all AV.one = true → ∀ v ∈ vs, v.oneCell' = true
 | [], [], _, _, _, hv => by cases hv
 | x :: l, u :: vs, h, ha, v, hv => by
  simp only [VL] at h
  simp only [List.all_cons, Bool.and_eq_true] at ha
  rcases List.mem_cons.1 hv with e | hv
  ·subst e; exact (h.1.one ha.1).1
  ·exact VL.ones l vs h.2 ha.2 v hv
 | [], _ :: _, h, _, _, _ => by simp only [VL] at h
 | _ :: _, [], h, _, _, _ => by simp only [VL] at h
theorem ROp.append {t e : TypeId} {s x : Operand} {I : TypeInfo} {z : Value} {bytes : Nat} {p ver n m : Nat} {l ys : List AV} {K : List (Nat × AV) → List Ob → Prop}
  (ht : P.underlying t = some (.slice e)) (hI : P.info? e = some I) (hz : I.zero = some z) (hsz : I.size = 1) (hby : I.bytes = bytes) (hzs : z.cells.size = 1)
  (ho : o.op = .call { callee := .builtin .append, args := #[s, x], argTypes := #[t, t] }) (hd : dstLt N o = true) (hs : ev τ s = .oref p ver 0 n) (hp : Γ[p]? = some ⟨ver, some l⟩) (hl : l.length = n) (hx : ReadAs Γ (ev τ x) m ys) (hone : ys.all AV.one = true)
  (hb : (n + m) * bytes ≤ 140737488355328) (hmx : n + m ≤ 4611686018427387904) (hK : K (put τ o.dst (.oref p (ver + 1) 0 (n + m))) (Γ.set p ⟨ver + 1, some (l ++ ys)⟩)) : ROp P N o τ Γ K := by
 intro S0 μ0 w0 S μ a w hi next Q hnx
 have hw := hi.wi
 have k1 := hi.ci.ev s
 rw [hs] at k1
 simp only [V] at k1
 obtain ⟨mm, ad, cap, h1, h2, h3, h4⟩ := k1
 have hver := hw.ver p _ mm hp h1
 simp only at hver
 have h5 := h4 hver
 obtain ⟨adx, capx, h6, h7⟩ := hx.2 S μ w _ hw (hi.ci.ev x)
 have hym := hx.1
 have hml := lt_of_getElem? h1
 have hpl := lt_of_getElem? hp
 have hmax : maxLen = 9223372036854775807 := rfl
 -- the end, once for all: the new world is the old one with new blocks, the object lies in one of them
 have fin : ∀ (v' : Value) (w' : World) (olds us : List Value), (execOp a.eval o).run P w = .ok (.value v') w' → VL S μ l olds → VL S μ ys us → 0 < n + m → w'.ownsRow w.heap.size e 1 v' (n + m) (olds ++ us) → w.grownBy w' none → o.wp P a w next Q := by
  intro v' w' olds us hrun hol hus hpos hrow hgr
  unfold Oper.wp
  rw [hrun]
  obtain ⟨_, hrow⟩ := hrow
  rcases hrow with ⟨_, h0⟩ | ⟨g, cap', cur, rfl, hg1, hg2, hg3, hg4, hg5, hg6⟩
  ·omega
  ·have hG : Grow w w' := ⟨hgr.size, fun b hb => hgr.block b hb (fun e => by cases e), hgr.os, hgr.tape, hgr.output⟩
   have hvp : VP S μ (l ++ ys) cur.toList := by
    have e1 : cur.toList = (olds ++ us) ++ cur.toList.drop ((n + m) * 1) := by rw [← hg6, List.take_append_drop]
    rw [e1, List.append_assoc]
    refine VP.app hol ?_
    have := VP.app hus (l' := []) (vs' := cur.toList.drop ((n + m) * 1)) (by simp only [VP])
    simpa using this
   obtain ⟨q1, q2⟩ := hw.fill_new hG (es := 0) (l := l ++ ys) (blk := some g) (cs := cur) (T := e) hp (fun b hb => by simp at hb; subst hb; exact ⟨hg1, hg2⟩) (by simp) hvp
   refine hnx S _ _ w' _ _ (SExt.refl S) hK ⟨hi.fr.grow (SExt.refl S) (SFresh.refl _ S) q2 hG, q1, ?_, by rw [put_size]; exact hi.tsz, by rw [put_defers]; exact hi.dfr⟩
   refine (hi.ci.mono (SExt.refl S) q2.le).put (fun d hd' => by rw [hi.tsz.1]; exact dstLt_spec hd d hd') ?_
   simp only [V]
   refine ⟨_, _, _, by simp [hml]; rfl, Nat.le_refl _, rfl, fun _ => ?_⟩
   simp only [Nat.zero_add, Nat.mul_one]
   exact ⟨trivial, hg3, by omega, trivial⟩
 have hargs : (execOp a.eval o).run P w = ((Builtin.append_ #[t, t] o.type #[.slice ad n cap, .slice adx m capx]).run P w).andThen fun v w' => .ok (.value v) w' := by
  simp [execOp, ho, resolve, invoke, builtin, h3, h6]
 have hu : ∀ w, (underlying t).run P w = .ok (.slice e) w := run_underlying ht
 by_cases hm0 : m = 0
 ·-- nothing is appended
  subst hm0
  have hys : ys = [] := List.eq_nil_of_length_eq_zero hym
  subst hys
  have hle : n ≤ cap := by
   cases hb' : mm.blk with
   | none => rw [hb'] at h5; simp only at h5; omega
   | some b => rw [hb'] at h5; exact h5.2.1
  have hfc : (Builtin.firstCells 1 0 (.slice adx 0 capx)).run P w = .ok #[] w := by
   cases adx <;> simp [Builtin.firstCells, loadCells, loadCellsFrom]
  have hrun : (execOp a.eval o).run P w = .ok (.value (.slice ad n cap)) w := by
   rw [hargs]
   cases ad <;> simp [Builtin.append_, hu, sizeOf, typeInfo, hI, hsz, Builtin.lenOf, hle, hfc, storeCells]
  obtain ⟨q1, q2⟩ := hw.bump hp h1
  unfold Oper.wp
  rw [hrun]
  rw [List.append_nil] at hK
  refine hnx S _ _ w _ _ (SExt.refl S) hK ⟨⟨hi.fr.ext, ?_, ?_, hi.fr.keep, hi.fr.size, hi.fr.os, hi.fr.tape, hi.fr.output, hi.fr.sf⟩, q1, ?_, by rw [put_size]; exact hi.tsz, by rw [put_defers]; exact hi.dfr⟩
  ·exact hi.fr.le.trans (B' := w0.heap.size) (MuLe.set h1 (by simp only; omega) fun b hb => .inl hb) (Nat.le_refl _)
  ·intro i m1 b hm1 hb1
   by_cases e : p = i
   ·subst e; simp [hml] at hm1; subst hm1; exact hi.fr.new p mm b h1 hb1
   ·rw [List.getElem?_set_ne e] at hm1; exact hi.fr.new i m1 b hm1 hb1
  ·refine (hi.ci.mono (SExt.refl S) q2).put (fun d hd' => by rw [hi.tsz.1]; exact dstLt_spec hd d hd') ?_
   simp only [V]
   exact ⟨{ mm with ver := ver + 1 }, ad, cap, by simp [hml], Nat.le_refl _, rfl, fun _ => h5⟩
 ·rcases h7 with h7 | ⟨bx, offx, us, rfl, h8, h9⟩
  ·exact absurd h7 hm0
  have hul : us.length = m := by rw [h8.length, hym]
  have h9' : ∀ j u, us[j]? = some u → w.cell? (Addr.add ⟨bx, offx, none⟩ j) = some u := fun j u hj => by rw [Addr.add_mk]; exact h9 j u hj
  have hones := VL.ones ys us h8 hone
  cases hb' : mm.blk with
  | none =>
   rw [hb'] at h5
   simp only at h5
   obtain ⟨hc0, _, hn0⟩ := h5
   have hl0 : l = [] := List.eq_nil_of_length_eq_zero (by omega)
   subst hl0
   cases ad with
   | some b0 =>
    obtain ⟨v', w', r1, r2, r3⟩ := run_append_arg_grows (P := P) w t o.type e I z 1 bytes ht hI hz hsz hby hzs (by omega) b0 n cap [] (by simp; omega) (by simp) ⟨bx, offx, none⟩ m capx us (by omega) h9' (by omega) (by omega) hb
    exact fin v' w' [] us (by rw [hargs, r1]; rfl) (by simp only [VL]) h8 (by omega) (by simpa using r2) r3
   | none =>
    subst hc0; subst hn0
    obtain ⟨v', w', r1, r2, r3, _⟩ := run_append_own (P := P) w w.heap.size t o.type e I z 1 bytes ht hI hz hsz hby hzs (by omega) (.slice none 0 0) 0 [] (World.ownsRow_nil w _ e 1) ⟨bx, offx, none⟩ m capx us (by omega) h9' hones (by omega) hb (Nat.le_refl _)
    exact fin v' w' [] us (by rw [hargs, r1]; rfl) (by simp only [VL]) h8 (by omega) (by simpa using r2) r3
  | some b =>
   rw [hb'] at h5
   simp only at h5
   obtain ⟨rfl, h10, h11, hmp⟩ := h5
   obtain ⟨cs, T, e1, e2, e3, e4⟩ := own_cells hw hp h1 hb' hmp
   have hcl : l.length ≤ cs.toList.length := e3.length
   simp only [Array.length_toList] at hcl
   by_cases hroom : n + m ≤ cap
   ·-- in place
    have hspan : n + m ≤ cs.size := by
     have : cap ≤ cap * (mm.es + 1) := Nat.le_mul_of_pos_right _ (by omega)
     omega
    have hst := run_storeCells (P := P) (w := w) (b := b) (T := T) us n 0 cs e1 (by omega) hones
    have hne : us ≠ [] := fun e => by subst e; simp at hul; omega
    rw [if_neg hne] at hst
    simp only [Nat.add_zero] at hst
    have hfc : (Builtin.firstCells 1 m (.slice (some ⟨bx, offx, none⟩) m capx)).run P w = .ok us.toArray w := by
     have := run_firstCells_some (P := P) w 1 m ⟨bx, offx, none⟩ m capx us (by omega) h9'
     simpa using this
    have hrun : (execOp a.eval o).run P w = .ok (.value (.slice (some ⟨b, 0, none⟩) (n + m) cap)) (recell w b (AM.overlay cs.toList n us).toArray T) := by
     rw [hargs]
     simp [Builtin.append_, hu, sizeOf, typeInfo, hI, hsz, Builtin.lenOf, hroom, hfc, Addr.add_mk, hst]
    have hsz' : (AM.overlay cs.toList n us).toArray.size = cs.size := by
     simp only [List.size_toArray, AM.overlay, List.length_append, List.length_take, List.length_drop, Array.length_toList]
     omega
    have hvp : VP S μ (l ++ ys) (AM.overlay cs.toList n us) := by
     unfold AM.overlay
     rw [List.append_assoc]
     refine VP.app ?_ ?_
     ·rw [← hl]; exact e3.vl_take
     ·have := VP.app h8 (l' := []) (vs' := cs.toList.drop (n + us.length)) (by simp only [VP])
      simpa using this
    have hw1 := hw.put hp h1 hb' e1 hsz' (by simpa using hvp)
    obtain ⟨q1, q2⟩ := hw1.bump (p := p) (ver := ver) (l := l ++ ys) (m := mm) (by simp [hpl]) h1
    rw [List.set_set] at q1
    unfold Oper.wp
    rw [hrun]
    refine hnx S _ _ _ _ _ (SExt.refl S) hK ⟨⟨hi.fr.ext, ?_, ?_, ?_, by simpa [recell] using hi.fr.size, hi.fr.os, hi.fr.tape, hi.fr.output, hi.fr.sf⟩, q1, ?_, by rw [put_size]; exact hi.tsz, by rw [put_defers]; exact hi.dfr⟩
    ·exact hi.fr.le.trans (B' := w0.heap.size) (MuLe.set h1 (by simp only; omega) fun b hb => .inl hb) (Nat.le_refl _)
    ·intro i m1 b1 hm1 hb1
     by_cases e : p = i
     ·subst e; simp [hml] at hm1; subst hm1; exact hi.fr.new p mm b1 h1 hb1
     ·rw [List.getElem?_set_ne e] at hm1; exact hi.fr.new i m1 b1 hm1 hb1
    ·intro b1 hb1 hno
     have hne : b ≠ b1 := by
      intro e
      subst e
      rcases hi.fr.new p mm b h1 hb' with ⟨m0, q1, q2⟩ | q
      ·exact hno p m0 q1 q2
      ·omega
     rw [recell_ne hne]
     exact hi.fr.keep b1 hb1 hno
    ·refine (hi.ci.mono (SExt.refl S) q2).put (fun d hd' => by rw [hi.tsz.1]; exact dstLt_spec hd d hd') ?_
     simp only [V]
     refine ⟨_, _, _, by simp [hml]; rfl, Nat.le_refl _, rfl, fun _ => ?_⟩
     simp only [hb']
     exact ⟨trivial, hroom, h11, hmp⟩
   ·obtain ⟨v', w', r1, r2, r3⟩ := run_append_arg_grows (P := P) w t o.type e I z 1 bytes ht hI hz hsz hby hzs (by omega) ⟨b, 0, none⟩ n cap (cs.toList.take l.length) (by simp; omega) (fun j u hj => by
      have hlt := lt_of_getElem? hj
      simp only [List.length_take] at hlt
      rw [List.getElem?_take, if_pos (by omega)] at hj
      rw [Addr.add_mk]
      simp only [World.cell?, e1, Nat.zero_add]
      simpa using hj) ⟨bx, offx, none⟩ m capx us (by omega) h9' (by omega) (by omega) hb
    exact fin v' w' _ us (by rw [hargs, r1]; rfl) e3.vl_take h8 (by omega) r2 r3
end
end Go.AM

namespace Go.AM
section
variable {P : Program} {N : Nat} {o : Oper} {τ : List (Nat × AV)} {Γ : List Ob} {Q : PQ}
def SelL (Γ : List Ob) (sel0 : List (Nat × Nat)) : List (Nat × Nat) → List Ob → Prop
 | [], [] => True
 | p :: sel, ⟨v, c⟩ :: Γ' => (match c with
   | none => ∃ c', Γ[p.1]? = some ⟨v + p.2, c'⟩
   | some l => Γ[p.1]? = some ⟨v + p.2, some (AV.rens (sigma sel0) l)⟩ ∧ AV.lts sel0.length l = true) ∧ SelL Γ sel0 sel Γ'
 | _, _ => False
theorem SelL.length {sel0 : List (Nat × Nat)} : ∀ {sel : List (Nat × Nat)} {Γ' : List Ob}, SelL Γ sel0 sel Γ' → Γ'.length = sel.length
 | [], [], _ => rfl
 | p :: sel, ⟨v, c⟩ :: Γ', h => by simp [SelL.length h.2]
 | [], _ :: _, h => h.elim
 | _ :: _, [], h => h.elim
theorem SelL.at {sel0 : List (Nat × Nat)} : ∀ {sel : List (Nat × Nat)} {Γ' : List Ob}, SelL Γ sel0 sel Γ' → ∀ (i : Nat) (g' : Ob) (p : Nat × Nat), Γ'[i]? = some g' → sel[i]? = some p → ∃ g, Γ[p.1]? = some g ∧ g.ver = g'.ver + p.2 ∧ ∀ l, g'.cells = some l → AV.lts sel0.length l = true ∧ g.cells = some (AV.rens (sigma sel0) l)
 | [], [], _, i, g', p, hg, _ => by simp at hg
 | q :: sel, ⟨v, c⟩ :: Γ', h, 0, g', p, hg, hp => by
  simp at hg hp
  subst hg; subst hp
  obtain ⟨h, _⟩ := h
  cases c with
  | none => obtain ⟨c', h⟩ := h; exact ⟨_, h, rfl, fun l e => by cases e⟩
  | some l => exact ⟨_, h.1, rfl, fun l' e => by cases e; exact ⟨h.2, rfl⟩⟩
 | q :: sel, ⟨v, c⟩ :: Γ', h, i + 1, g', p, hg, hp => by
  simp at hg hp
  exact SelL.at h.2 i g' p hg hp
 | [], _ :: _, h, _, _, _, _, _ => h.elim
 | _ :: _, [], h, _, _, _, _, _ => h.elim
theorem bodyQ.mk {fn : Func} {e : Exit} {k : Nat} {r r' : AV} {Γ' : List Ob} (sel : List (Nat × Nat)) (he : e = .normal ∨ e = .ret) (hk : (List.range k).all (fun i => sel[i]? == some (i, 0)) = true) (hn : (sel.map (·.1)).Nodup) (hr : r.ren (sigma sel) = r') (hrl : r.lt sel.length = true) (h : Res P fn τ Γ r') (hs : SelL Γ sel sel Γ') : bodyQ P fn k r Γ' e τ Γ := by
 have hall : ∀ i, i < k → sel[i]? = some (i, 0) := fun i hi => by
  have := List.all_eq_true.1 hk i (List.mem_range.2 hi)
  simpa using this
 refine ⟨he, sel, ?_, hall, by rw [hr]; exact h, hrl, hs.length, hn, fun i g' hg => ?_⟩
 ·cases k with
  | zero => exact Nat.zero_le _
  | succ k => have := lt_of_getElem? (hall k (by omega)); omega
 ·have hi : i < sel.length := by rw [← hs.length]; exact lt_of_getElem? hg
  have hp : sel[i]? = some (sigma sel i) := by simp [sigma, List.getD, List.getElem?_eq_getElem hi]
  exact hs.at i g' _ hg hp
theorem rens_map {α : Type} {f : α → AV} (hf : ∀ x, (f x).lt 0 = true) {σ : Nat → Nat × Nat} {l : List α} : l.map f = AV.rens σ (l.map f) := (AV.rens_of_lt0 σ _ (lts0_map hf l)).symm
theorem AV.lt_mono0 {k : Nat} : ∀ a : AV, a.lt 0 = true → a.lt k = true
 | a, h => by
  have : ∀ (l : List AV), (∀ a ∈ l, a.lt 0 = true → a.lt k = true) → AV.lts 0 l = true → AV.lts k l = true := by
   intro l
   induction l with
   | nil => intro _ _; rfl
   | cons a l ih =>
    intro hh ha
    simp only [AV.lts, Bool.and_eq_true] at ha ⊢
    exact ⟨hh a (by simp) ha.1, ih (fun b hb => hh b (by simp [hb])) ha.2⟩
  cases a with
  | sl n l => simp only [AV.lt] at h ⊢; exact this l (fun b _ => AV.lt_mono0 b) h
  | agg l => simp only [AV.lt] at h ⊢; exact this l (fun b _ => AV.lt_mono0 b) h
  | tup l => simp only [AV.lt] at h ⊢; exact this l (fun b _ => AV.lt_mono0 b) h
  | ptr l => simp only [AV.lt] at h ⊢; exact this l (fun b _ => AV.lt_mono0 b) h
  | fn g p q => simp only [AV.lt, Bool.and_eq_true] at h ⊢; exact ⟨this p (fun b _ => AV.lt_mono0 b) h.1, this q (fun b _ => AV.lt_mono0 b) h.2⟩
  | oref o _ _ _ => simp [AV.lt] at h
  | optr o _ _ => simp [AV.lt] at h
  | mref o _ => simp [AV.lt] at h
  | itr o _ => simp [AV.lt] at h
  | x _ => rfl
  | f _ _ => rfl
  | cx _ _ _ => rfl
  | bt _ _ _ => rfl
  | any => rfl
  | nni => rfl
theorem lts_map {α : Type} {f : α → AV} (hf : ∀ x, (f x).lt 0 = true) (k : Nat) (l : List α) : AV.lts k (l.map f) = true := by
 induction l with
 | nil => rfl
 | cons a l ih => simp [AV.lts, AV.lt_mono0 _ (hf a), ih]
theorem SelL.arr {α : Type} {f : α → AV} (hf : ∀ x, (f x).lt 0 = true) {sel0 sel : List (Nat × Nat)} {p s v : Nat} {l : List α} {Γ' : List Ob} (hp : Γ[p]? = some ⟨v + s, some (l.map f)⟩) (h : SelL Γ sel0 sel Γ') : SelL Γ sel0 ((p, s) :: sel) (⟨v, some (l.map f)⟩ :: Γ') :=
 ⟨⟨hp.trans (by rw [← rens_map hf]), lts_map hf _ l⟩, h⟩
theorem SelL.cells {sel0 sel : List (Nat × Nat)} {p s v : Nat} {l l' : List AV} {Γ' : List Ob} (hp : Γ[p]? = some ⟨v + s, some l'⟩) (hr : AV.rens (sigma sel0) l = l') (hl : AV.lts sel0.length l = true) (h : SelL Γ sel0 sel Γ') : SelL Γ sel0 ((p, s) :: sel) (⟨v, some l⟩ :: Γ') := by
 subst hr; exact ⟨⟨hp, hl⟩, h⟩
theorem nil_own {S : Snap} {μ : List Mu} {w : World} (hw : WI S μ Γ w) {p v : Nat} {c : Option (List AV)} (hp : Γ[p]? = some ⟨v, c⟩) :
  WI S (μ.set p ⟨v + 1, none, 0, 0, false⟩) (Γ.set p ⟨v + 1, some []⟩) w ∧ MuStep w.heap.size [(p, [])] μ (μ.set p ⟨v + 1, none, 0, 0, false⟩) ∧ V S (μ.set p ⟨v + 1, none, 0, 0, false⟩) (.oref p (v + 1) 0 0) (.slice none 0 0) := by
 obtain ⟨h1, h2⟩ := hw.fill_new (Grow.refl w) (p := p) (es := 0) (l := []) (blk := none) (cs := #[]) (T := 0) hp (fun b hb => by cases hb) (fun _ => rfl) (by simp only [VP])
 refine ⟨h1, h2, ?_⟩
 have hml : p < μ.length := by rw [hw.len]; exact lt_of_getElem? hp
 simp only [V]
 exact ⟨⟨v + 1, none, 0, 0, false⟩, none, 0, by simp [hml], Nat.le_refl _, rfl, fun _ => by simp⟩
theorem RunC.nil_slot {c : Code} (t p : Nat) {v : Nat} (ht : look τ t = .nilsl) (hp : Γ[p]? = some ⟨v, none⟩) {Γ' : List Ob} (hΓ : Γ.set p ⟨v + 1, some []⟩ = Γ') (h : RunC P N c ((t, .oref p (v + 1) 0 0) :: τ) Γ' Q) : RunC P N c τ Γ Q := by
 subst hΓ
 intro S0 μ0 w0 S μ a w hi
 obtain ⟨h1, h2, h3⟩ := nil_own hi.wi hp
 refine h S0 μ0 w0 S _ a w ⟨hi.fr.grow (SExt.refl S) (SFresh.refl _ S) h2 (Grow.refl w), h1, ?_, hi.tsz, hi.dfr⟩
 intro u
 simp only [look]
 split
 ·rename_i e
  subst e
  have := hi.ci t
  rw [ht] at this
  simp only [V] at this
  rw [this]; exact h3
 ·exact V.mono (SExt.refl S) h2.le _ _ (hi.ci u)
theorem VP.nil_set {S : Snap} {μ : List Mu} {b : AV} (hb : V S μ b (.slice none 0 0)) : ∀ {l : List AV} {vs : List Value} {i : Nat}, VP S μ l vs → l[i]? = some .nilsl → VP S μ (l.set i b) vs
 | [], _, _, _, e => by simp at e
 | a :: l, v :: vs, 0, h, e => by
  simp at e; subst e
  simp only [VP, List.set_cons_zero] at h ⊢
  refine ⟨?_, h.2⟩
  have := h.1
  simp only [V] at this
  rw [this]; exact hb
 | a :: l, v :: vs, i + 1, h, e => by
  simp at e
  simp only [VP, List.set_cons_succ] at h ⊢
  exact ⟨h.1, VP.nil_set hb h.2 e⟩
 | _ :: _, [], _, h, _ => by simp only [VP] at h
theorem RunC.nil_cell {c : Code} (q i p : Nat) {v vq : Nat} {l : List AV} (hq : Γ[q]? = some ⟨vq, some l⟩) (hi' : l[i]? = some .nilsl) (hp : Γ[p]? = some ⟨v, none⟩) {l' : List AV} (hl : l.set i (.oref p (v + 1) 0 0) = l') {Γ' : List Ob} (hΓ : (Γ.set p ⟨v + 1, some []⟩).set q ⟨vq, some l'⟩ = Γ') (h : RunC P N c τ Γ' Q) : RunC P N c τ Γ Q := by
 subst hΓ; subst hl
 intro S0 μ0 w0 S μ a w hi
 obtain ⟨h1, h2, h3⟩ := nil_own hi.wi hp
 have hne : p ≠ q := fun e => by subst e; rw [hp] at hq; simp at hq
 have hq' : (Γ.set p ⟨v + 1, some []⟩)[q]? = some ⟨vq, some l⟩ := by rw [List.getElem?_set_ne hne]; exact hq
 have hql := lt_of_getElem? hq'
 refine h S0 μ0 w0 S _ a w ⟨hi.fr.grow (SExt.refl S) (SFresh.refl _ S) h2 (Grow.refl w), ⟨h1.snap, by simpa using h1.len, ?_, ?_, ?_⟩, fun u => V.mono (SExt.refl S) h2.le _ _ (hi.ci u), hi.tsz, hi.dfr⟩
 ·intro k g m hg hm
  by_cases e : q = k
  ·subst e; rw [List.getElem?_set_self hql] at hg; simp at hg; subst hg; have := h1.ver q ⟨vq, some l⟩ m hq' hm; exact this
  ·rw [List.getElem?_set_ne e] at hg; exact h1.ver k g m hg hm
 ·intro k vk lk m hg hm
  by_cases e : q = k
  ·subst e
   rw [List.getElem?_set_self hql] at hg; simp at hg
   obtain ⟨rfl, rfl⟩ := hg
   have := h1.own q vq l m hq' hm
   unfold OwnAt at this ⊢
   split at this
   ·subst this; simp at hi'
   ·obtain ⟨k1, cs, T, k2, k3, k4⟩ := this
    exact ⟨k1, cs, T, k2, k3, VP.nil_set h3 k4 hi'⟩
  ·rw [List.getElem?_set_ne e] at hg; exact h1.own k vk lk m hg hm
 ·have key : ∀ {k : Nat} {g : Ob}, ((Γ.set p ⟨v + 1, some []⟩).set q ⟨vq, some (l.set i (.oref p (v + 1) 0 0))⟩)[k]? = some g → g.cells.isSome = true → ∃ g0, (Γ.set p ⟨v + 1, some []⟩)[k]? = some g0 ∧ g0.cells.isSome = true := by
   intro k g hg hs
   by_cases e : q = k
   ·subst e; exact ⟨_, hq', rfl⟩
   ·rw [List.getElem?_set_ne e] at hg; exact ⟨g, hg, hs⟩
  intro k k' g g' m m' b hg hs hg' hs' hm hm' hb hb'
  obtain ⟨g0, a1, a2⟩ := key hg hs
  obtain ⟨g0', a1', a2'⟩ := key hg' hs'
  exact h1.sep k k' g0 g0' m m' b a1 a2 a1' a2' hm hm' hb hb'
theorem at_in {α : Type} {l : List α} {i : Int} {a : α} {n : Nat} (h : at? l i = some a) (hn : l.length = n) : 0 ≤ i ∧ i < n := by
 obtain ⟨h0, h1, _⟩ := at?_spec h; omega
theorem set_in {α : Type} {l l' : List α} {i : Int} {a : α} {n : Nat} (h : setAt? l i a = some l') (hn : l.length = n) : 0 ≤ i ∧ i < n := by
 obtain ⟨h0, h1, _⟩ := setAt?_spec h; omega
theorem TOp.ixo {t e : TypeId} {x ix : Operand} {p ver n : Nat} {k : IntKind} {i : Int} {l : List AV} (ht : ∀ w, (underlying t).run P w = .ok (.slice e) w) (he : ∀ w, (sizeOf e).run P w = .ok 1 w)
  (ho : o.op = .indexAddr t x ix) (hx : ev τ x = .oref p ver 0 n) (hi : ev τ ix = .x (.int k i)) (hb : 0 ≤ i ∧ i < n) (hΓ : Γ[p]? = some ⟨ver, some l⟩) : TOp P o τ Γ (.optr p ver i.toNat) [] := by
 have := LOp.indexAddr_oref ht he ho hx hi hb.1 hb.2 Γ hΓ
 rwa [Nat.zero_add, Nat.mul_one] at this
theorem at_cell {α : Type} {f : α → AV} {l : List α} {i : Int} {a : α} (h : at? l i = some a) : (l.map f)[i.toNat]? = some (f a) := by
 obtain ⟨_, _, h⟩ := at?_spec h
 simp [h]
theorem ROps.st {α : Type} {f : α → AV} {l l' : List α} {i : Int} {y' : α} {all : Array Oper} {rest : List Oper} {t : TypeId} {x y : Operand} {p ver : Nat} {Γ' : List Ob} (hw : wantT all τ o = some true) (hn : ∀ w, (sizeOf t).run P w = .ok 1 w) (ho : o.op = .store t x y) (hd : o.dst = none)
  (hx : ev τ x = .optr p ver i.toNat) (hy : ALe (ev τ y) (f y')) (hc : (f y').cells? = some [f y']) (hone : (f y').one = true) (hp : Γ[p]? = some ⟨ver, some (l.map f)⟩) (hs : setAt? l i y' = some l') (hΓ : Γ.set p ⟨ver, some (l'.map f)⟩ = Γ') (h : ROps P N all rest τ Γ' Q) : ROps P N all (o :: rest) τ Γ Q := by
 obtain ⟨h0, h1, rfl⟩ := setAt?_spec hs
 refine ROps.op hw (ROp.store_le hn ho hd hx hy hc (by simp [hone]) rfl hp (by simp; omega) ?_)
 rw [overlay_set (by simpa using h1), ← List.map_set, hΓ]; exact h
end
end Go.AM

namespace Go.AM
abbrev AV.ik (k : IntKind) (n : Int) : AV := .x (.int k n)
section
variable {P : Program} {N : Nat} {o : Oper} {τ : List (Nat × AV)} {Γ : List Ob} {Q : PQ}
def FillsL (Γ : List Ob) : List (Nat × List AV) → Prop
 | [] => True
 | f :: fs => (∃ ver, Γ[f.1]? = some ⟨ver, none⟩) ∧ FillsL Γ fs
theorem fills_of {fs : List (Nat × List AV)} (hn : (fs.map (·.1)).Nodup) (h : FillsL Γ fs) : fillsOk Γ fs := by
 refine ⟨hn, ?_⟩
 have : ∀ fs : List (Nat × List AV), FillsL Γ fs → ∀ f ∈ fs, ∃ ver, Γ[f.1]? = some ⟨ver, none⟩ := by
  intro fs
  induction fs with
  | nil => intro _ f hf; cases hf
  | cons g fs ih =>
   intro h f hf
   rcases List.mem_cons.1 hf with e | hf
   ·subst e; exact h.1
   ·exact ih h.2 f hf
 exact this fs h
end
end Go.AM
namespace Go.AM
section
variable {P : Program} {N : Nat} {o : Oper} {τ : List (Nat × AV)} {Γ : List Ob} {Q : PQ}
abbrev AV.cp (k : FloatKind) (p : F × F) : AV := .cx k p.1 p.2
theorem ALe.eq {a b : AV} (h : a = b) : ALe a b := h ▸ ALe.refl a
def WeakLe (τ : List (Nat × AV)) : List (Nat × AV) → Prop
 | [] => True
 | (d, v) :: r => ALe (look τ d) v ∧ WeakLe τ r
def DeadLe : List Ob → List Ob → Prop
 | [], [] => True
 | g :: l, g' :: l' => (g'.ver = g.ver ∧ (g'.cells = none ∨ g'.cells = g.cells)) ∧ DeadLe l l'
 | _, _ => False
theorem DeadLe.length : ∀ {l l' : List Ob}, DeadLe l l' → l'.length = l.length
 | [], [], _ => rfl
 | _ :: l, _ :: l', h => by simp [DeadLe.length h.2]
 | [], _ :: _, h => h.elim
 | _ :: _, [], h => h.elim
theorem DeadLe.at : ∀ {l l' : List Ob} {i : Nat} {g' : Ob}, DeadLe l l' → l'[i]? = some g' → ∃ g, l[i]? = some g ∧ g'.ver = g.ver ∧ (g'.cells = none ∨ g'.cells = g.cells)
 | [], [], _, _, _, h => by simp at h
 | g :: l, g1 :: l', 0, g', h, e => by simp at e; subst e; exact ⟨g, rfl, h.1⟩
 | _ :: l, _ :: l', i + 1, g', h, e => by simp at e; simpa using DeadLe.at h.2 e
 | [], _ :: _, _, _, h, _ => h.elim
 | _ :: _, [], _, _, h, _ => h.elim
theorem WI.dead {S : Snap} {μ : List Mu} {Γ' : List Ob} {w : World} (h : WI S μ Γ w) (hd : DeadLe Γ Γ') : WI S μ Γ' w := by
 refine ⟨h.snap, by rw [h.len, hd.length], ?_, ?_, ?_⟩
 ·intro i g m hg hm
  obtain ⟨g0, h1, h2, _⟩ := hd.at hg
  rw [h2]; exact h.ver i g0 m h1 hm
 ·intro i v l m hg hm
  obtain ⟨⟨v0, c0⟩, h1, h2, h3⟩ := hd.at hg
  rcases h3 with h3 | h3
  ·cases h3
  ·simp only at h2 h3; subst h2; subst h3; exact h.own i _ l m h1 hm
 ·intro i i' g g' m m' b hg hs hg' hs' hm hm' hb hb'
  obtain ⟨g0, h1, h2, h3⟩ := hd.at hg
  obtain ⟨g0', h1', h2', h3'⟩ := hd.at hg'
  rcases h3 with h3 | h3
  ·rw [h3] at hs; cases hs
  ·rcases h3' with h3' | h3'
   ·rw [h3'] at hs'; cases hs'
   ·rw [h3] at hs; rw [h3'] at hs'; exact h.sep i i' g0 g0' m m' b h1 hs h1' hs' hm hm' hb hb'
theorem WeakLe.look {S : Snap} {μ : List Mu} {τ' : List (Nat × AV)} {t : Nat} {v : Value} (h : V S μ (look τ t) v) (hw : WeakLe τ τ') : V S μ (AM.look τ' t) v := by
 induction τ' with
 | nil => simp only [AM.look, V]
 | cons p τ' ih =>
  obtain ⟨d, x⟩ := p
  simp only [AM.look]
  split
  ·rename_i e; subst e; exact hw.1 _ _ _ h
  ·exact ih hw.2
theorem RunC.wl {c : Code} {τ' : List (Nat × AV)} {Γ' : List Ob} (hw : WeakLe τ τ') (hd : DeadLe Γ Γ') (h : RunC P N c τ' Γ' Q) : RunC P N c τ Γ Q :=
 fun S0 μ0 w0 S μ a w hi => h S0 μ0 w0 S μ a w ⟨hi.fr, hi.wi.dead hd, fun t => WeakLe.look (hi.ci t) hw, hi.tsz, hi.dfr⟩
theorem RunC.cutN {c : Code} (Mid : List (Nat × AV) → List Ob → Prop) (h1 : RunC P N c τ Γ (thenQ Mid Q)) (h2 : ∀ τ Γ, Mid τ Γ → Q .normal τ Γ) : RunC P N c τ Γ Q := by
 refine h1.mono fun e τ Γ h => ?_
 cases e <;> first | exact h2 τ Γ h | exact h
theorem Bor.ptr {l l' : List AV} (h : Bors Γ l l') : Bor Γ (.ptr l) (.ptr l') := by
 intro S μ Γ2 w Sb v hΓ hw hL hv
 simp only [V] at hv ⊢
 obtain ⟨b, off, cs, h1, h2, h3⟩ := hv
 exact ⟨b, off, cs, h1, hL.ext _ _ h2, h.p S μ Γ2 w Sb _ hΓ hw hL h3⟩
def NsL (Γ : List Ob) : List Nat → Prop
 | [] => True
 | p :: l => (∃ ver, Γ[p]? = some ⟨ver, none⟩) ∧ NsL Γ l
theorem ns_of : ∀ {ns : List Nat}, NsL Γ ns → ∀ p ∈ ns, ∃ ver, Γ[p]? = some ⟨ver, none⟩
 | [], _, p, hp => by cases hp
 | q :: ns, h, p, hp => by
  rcases List.mem_cons.1 hp with e | hp
  ·subst e; exact h.1
  ·exact ns_of h.2 p hp
theorem Res.eq {fn : Func} {r r' : AV} (h : Res P fn τ Γ r) (e : r = r') : Res P fn τ Γ r' := e ▸ h
theorem SelOk.of {sel : List (Nat × Nat)} {Γ' : List Ob} (hn : (sel.map (·.1)).Nodup) (h : SelL Γ sel sel Γ') : SelOk sel Γ Γ' :=
 ⟨h.length, hn, fun i g' hg => by
  have hi : i < sel.length := by rw [← h.length]; exact lt_of_getElem? hg
  have hp : sel[i]? = some (sigma sel i) := by simp [sigma, List.getD, List.getElem?_eq_getElem hi]
  exact h.at i g' _ hg hp⟩
theorem SelL.arr0 {α : Type} {f : α → AV} (hf : ∀ x, (f x).lt 0 = true) {sel0 sel : List (Nat × Nat)} {p s : Nat} {l : List α} {Γ' : List Ob} (hp : Γ[p]? = some ⟨s, some (l.map f)⟩) (h : SelL Γ sel0 sel Γ') : SelL Γ sel0 ((p, s) :: sel) (⟨0, some (l.map f)⟩ :: Γ') :=
 SelL.arr hf (by rw [Nat.zero_add]; exact hp) h
end
end Go.AM

namespace Go.AM
section
variable {P : Program} {N : Nat} {o : Oper} {τ : List (Nat × AV)} {Γ : List Ob} {Q : PQ}
def mkok (by_ : Nat) (n : Int) : Bool := decide (0 ≤ n) && decide (n < 9223372036854775808) && decide ((by_ : Int) * n ≤ 281474976710656)
theorem mk_lo {b : Nat} {n : Int} (h : mkok b n = true) : 0 ≤ n := by simp [mkok] at h; exact h.1.1
theorem mk_hi {b : Nat} {n : Int} (h : mkok b n = true) : n < 9223372036854775808 := by simp [mkok] at h; exact h.1.2
theorem mk_by {b : Nat} {n : Int} (h : mkok b n = true) : (b : Int) * n ≤ 281474976710656 := by simp [mkok] at h; exact h.2
theorem TOp.mkS {α : Type} {f : α → AV} {zv : α} {t e : TypeId} {x y : Operand} {n : Int} {z : Value} {I : TypeInfo} {by_ : Nat} (p : Nat) {g : Ob} (hp : Γ[p]? = some g) (ht : ∀ w, (underlying t).run P w = .ok (.slice e) w) (hi : ∀ w, (typeInfo e).run P w = .ok I w) (hby : I.bytes = by_) (hsz : ∀ w, (sizeOf e).run P w = .ok 1 w)
  (hz : ∀ w, (zeroValue e).run P w = .ok z w) (hzc : z.cells = #[z]) (hza : ∀ S μ, V S μ (f zv) z) (ho : o.op = .makeSlice t x y) (hx : ev τ x = .i64 n) (hy : ev τ y = .i64 n) (hm : mkok by_ n = true) :
  TOp P o τ Γ (.oref p (g.ver + 1) 0 n.toNat) [(p, (List.replicate n.toNat zv).map f)] := by
 rw [List.map_replicate]
 exact TOp.makeSlice_o p hp ht ⟨I, hi, hby⟩ hsz hz hzc hza ho hx hy (mk_lo hm) (mk_hi hm) (mk_by hm)
theorem LOp.fap {s : TypeId} {x : Operand} {f : Nat} {fs : Array Field} {fd : Field} {n : Nat} {l r : List AV} (hs : ∀ w, (underlying s).run P w = .ok (.struct fs) w) (hf : fs[f]? = some fd) (hn : ∀ w, (sizeOf fd.type).run P w = .ok (n + 1) w)
  (ho : o.op = .fieldAddr s x f) (hx : ev τ x = .ptr l) (hr : l.drop fd.offset = r) : LOp P o τ (.ptr r) := hr ▸ LOp.fieldAddr_ptr hs hf hn ho hx
theorem LOp.fao {s : TypeId} {x : Operand} {f : Nat} {fs : Array Field} {fd : Field} {n p ver off off' : Nat} (hs : ∀ w, (underlying s).run P w = .ok (.struct fs) w) (hf : fs[f]? = some fd) (hn : ∀ w, (sizeOf fd.type).run P w = .ok (n + 1) w)
  (ho : o.op = .fieldAddr s x f) (hx : ev τ x = .optr p ver off) (hr : off + fd.offset = off') : LOp P o τ (.optr p ver off') := hr ▸ LOp.fieldAddr_optr hs hf hn ho hx
theorem nz {n : Int} (h : (!decide (n = 0)) = true) : n ≠ 0 := by simpa using h
def apok (by_ n m : Nat) : Bool := decide ((n + m) * by_ ≤ 140737488355328) && decide (n + m ≤ 4611686018427387904)
theorem ap_by {b n m : Nat} (h : apok b n m = true) : (n + m) * b ≤ 140737488355328 := by simp [apok] at h; exact h.1
theorem ap_mx {b n m : Nat} (h : apok b n m = true) : n + m ≤ 4611686018427387904 := by simp [apok] at h; exact h.2
theorem app_len {α : Type} {a b : List α} {n m : Nat} (h : a.length = n) (k : b.length = m) : (a ++ b).length = n + m := by simp [h, k]
theorem ones_map {α : Type} {f : α → AV} (hf : ∀ x, (f x).one = true) {l : List α} : (l.map f).all AV.one = true := by
 induction l with
 | nil => rfl
 | cons a l ih => simp only [List.map_cons, List.all_cons, hf, Bool.true_and]; exact ih
theorem ROps.app {α : Type} {f : α → AV} {xs ys : List α} {all : Array Oper} {rest : List Oper} {t e : TypeId} {s x : Operand} {I : TypeInfo} {z : Value} {bytes : Nat} {p ver n m d : Nat} {Γ' : List Ob} (hw : wantT all τ o = some true)
  (ht : P.underlying t = some (.slice e)) (hI : P.info? e = some I) (hz : I.zero = some z) (hsz : I.size = 1) (hby : I.bytes = bytes) (hzs : z.cells.size = 1)
  (ho : o.op = .call { callee := .builtin .append, args := #[s, x], argTypes := #[t, t] }) (hd : o.dst = some d) (hN : Nat.blt d (N / 2) = true) (hs : ev τ s = .oref p ver 0 n) (hp : Γ[p]? = some ⟨ver, some (xs.map f)⟩) (hl : xs.length = n) (hx : ReadAs Γ (ev τ x) m (ys.map f)) (hone : (ys.map f).all AV.one = true)
  (hb : (n + m) * bytes ≤ 140737488355328) (hmx : n + m ≤ 4611686018427387904) (hΓ : Γ.set p ⟨ver + 1, some ((xs ++ ys).map f)⟩ = Γ') (h : ROps P N all rest ((d, .oref p (ver + 1) 0 (n + m)) :: τ) Γ' Q) : ROps P N all (o :: rest) τ Γ Q := by
 refine ROps.op hw (ROp.append ht hI hz hsz hby hzs ho (by simp only [dstLt, hd]; simpa using hN) hs hp (by simpa using hl) hx hone hb hmx ?_)
 rw [hd, ← List.map_append, hΓ]; exact h
theorem rens_f32 {σ : Nat → Nat × Nat} {l : List F} : AV.rens σ (l.map AV.f32) = l.map AV.f32 := (rens_map (fun _ => rfl)).symm
theorem rens_f64 {σ : Nat → Nat × Nat} {l : List F} : AV.rens σ (l.map AV.f64) = l.map AV.f64 := (rens_map (fun _ => rfl)).symm
theorem rens_i64 {σ : Nat → Nat × Nat} {l : List Int} : AV.rens σ (l.map AV.i64) = l.map AV.i64 := (rens_map (fun _ => rfl)).symm
theorem rens_ik {k : IntKind} {σ : Nat → Nat × Nat} {l : List Int} : AV.rens σ (l.map (AV.ik k)) = l.map (AV.ik k) := (rens_map (fun _ => rfl)).symm
theorem rens_str {σ : Nat → Nat × Nat} {l : List ByteArray} : AV.rens σ (l.map AV.str) = l.map AV.str := (rens_map (fun _ => rfl)).symm
theorem rens_cp {k : FloatKind} {σ : Nat → Nat × Nat} {l : List (F × F)} : AV.rens σ (l.map (AV.cp k)) = l.map (AV.cp k) := (rens_map (fun _ => rfl)).symm
def LiveL (Γ : List Ob) : List (Nat × Nat) → Prop
 | [] => True
 | p :: l => (∃ ver c, Γ[p.1]? = some ⟨ver, some c⟩) ∧ LiveL Γ l
theorem live_of : ∀ {sel : List (Nat × Nat)}, LiveL Γ sel → ∀ p ∈ sel, ∃ ver l, Γ[p.1]? = some ⟨ver, some l⟩
 | [], _, p, hp => by cases hp
 | q :: sel, h, p, hp => by
  rcases List.mem_cons.1 hp with e | hp
  ·subst e; exact h.1
  ·exact live_of h.2 p hp
def NewsL (Γ : List Ob) : List (Nat × Nat) → Prop
 | [] => True
 | p :: l => (∃ ver, Γ[p.1]? = some ⟨ver, none⟩ ∧ p.2 = ver + 1) ∧ NewsL Γ l
theorem news_of : ∀ {ns : List (Nat × Nat)}, NewsL Γ ns → ∀ p ∈ ns, ∃ ver, Γ[p.1]? = some ⟨ver, none⟩ ∧ p.2 = ver + 1
 | [], _, p, hp => by cases hp
 | q :: ns, h, p, hp => by
  rcases List.mem_cons.1 hp with e | hp
  ·subst e; exact h.1
  ·exact news_of h.2 p hp
theorem ROps.callO {all : Array Oper} {rest : List Oper} {d : Nat} {f : FuncId} {A args : List AV} {Γc Γc' Γ' : List Ob} {r r' : AV} (sel ns : List (Nat × Nat)) (hw : wantT all τ o = some true) (hc : CallAs P o τ f A) (hd : o.dst = some d) (hN : Nat.blt d (N / 2) = true)
  (hsel : SelOk sel Γ Γc) (hlive : ∀ p ∈ sel, ∃ ver l, Γ[p.1]? = some ⟨ver, some l⟩) (hA : AV.rens (sigma sel) args = A) (hlt : AV.lts sel.length args = true) (hev : Ev P f args Γc r Γc') (hlen : Γc'.length = sel.length + ns.length)
  (hns : ∀ p ∈ ns, ∃ ver, Γ[p.1]? = some ⟨ver, none⟩ ∧ p.2 = ver + 1) (hnd : ((sel ++ ns).map (·.1)).Nodup) (hr : r.ren (sigma (sel ++ ns)) = r') (hΓ : backOb (sel ++ ns) Γc' Γ = Γ') (h : ROps P N all rest ((d, r') :: τ) Γ' Q) : ROps P N all (o :: rest) τ Γ Q :=
 ROps.op hw (ROp.call hc (by simp only [dstLt, hd]; simpa using hN) hsel hlive hA hlt hev hlen hns hnd (by rw [hd, hr, hΓ]; exact h))
theorem ALes.nil : ALes [] [] := trivial
theorem ALes.cons {a b : AV} {l m : List AV} (h : ALe a b) (k : ALes l m) : ALes (a :: l) (b :: m) := ⟨h, k⟩
theorem CallAs.le {f : FuncId} {A A' : List AV} (h : CallAs P o τ f A) (e : ALes A A') : CallAs P o τ f A' := fun S μ a w hx => (h S μ a w hx).elim fun vs hv => ⟨vs, hv.1, e.vl hv.2⟩
theorem lts_nil {k : Nat} : AV.lts k [] = true := rfl
theorem lts_cons {k : Nat} {a : AV} {l : List AV} (h : a.lt k = true) (h2 : AV.lts k l = true) : AV.lts k (a :: l) = true := by simp only [AV.lts, h, h2, Bool.and_self]
theorem lt_agg {k : Nat} {l : List AV} (h : AV.lts k l = true) : (AV.agg l).lt k = true := by simp only [AV.lt, h]
theorem lt_tup {k : Nat} {l : List AV} (h : AV.lts k l = true) : (AV.tup l).lt k = true := by simp only [AV.lt, h]
theorem lt_sl {α : Type} {f : α → AV} (hf : ∀ x, (f x).lt 0 = true) {n : Nat} {l : List α} : (AV.sl n (l.map f)).lt 0 = true := by simp only [AV.lt, lts0_map hf]
theorem TOp.callS {f : FuncId} {A A' : List AV} {r r' : AV} {Γ' : List Ob} (hc : CallAs P o τ f A) (hA : ALes A A') (hA0 : AV.lts 0 A' = true) (hr : r'.lt 0 = true) (hev : Ev P f A' [] r Γ') (hb : Bor Γ' r r') : TOp P o τ Γ r' [] :=
 TOp.call (hc.le hA) hA0 hr (hev.settle hb)
section draw
variable {all : Array Oper} {rest : List Oper} {τ' : List (Nat × AV)} {n : Nat} {r : AV} {fs : List (Nat × List AV)} {fss : List (List (Nat × List AV))} {bs : List Bool}
theorem TR.l {d : Nat} (hw : wantT all τ o = some true) (hd : o.dst = some d) (hl : LOp P o τ r) (h : TRun P all Γ (List.take n rest) ((d, r) :: τ) τ' fss bs) : TRun P all Γ (List.take (n + 1) (o :: rest)) τ τ' ([] :: fss) (false :: bs) := TRun.l hw hd hl h
theorem TR.d {d : Nat} (hw : wantT all τ o = some true) (hd : o.dst = some d) (ht : TOp P o τ Γ r fs) (h : TRun P all Γ (List.take n rest) ((d, r) :: τ) τ' fss bs) : TRun P all Γ (List.take (n + 1) (o :: rest)) τ τ' (fs :: fss) (false :: bs) := TRun.d hw hd ht h
theorem TR.s {d : Nat} (hw : wantT all τ o = some false) (hd : o.dst = some d) (h : TRun P all Γ (List.take n rest) ((d, .x undef) :: τ) τ' fss bs) : TRun P all Γ (List.take (n + 1) (o :: rest)) τ τ' ([] :: fss) (false :: bs) := TRun.s hw hd h
theorem TR.nil {l : List Oper} : TRun P all Γ (List.take 0 l) τ τ [] [] := TRun.nil τ
theorem ROps.dropS (h : ROps P N all (List.drop n rest) τ Γ Q) : ROps P N all (List.drop (n + 1) (o :: rest)) τ Γ Q := h
theorem ROps.drop0 {l : List Oper} (h : ROps P N all l τ Γ Q) : ROps P N all (List.drop 0 l) τ Γ Q := h
end draw
end
end Go.AM
namespace Go.AM
section
variable {P : Program} {N : Nat} {o : Oper} {τ : List (Nat × AV)} {Γ : List Ob} {Q : PQ}
theorem ROps.eqnil {all : Array Oper} {rest : List Oper} {t ty e : TypeId} {x y : Operand} {n d : Nat} {l : List AV} (hw : wantT all τ o = some true) (ht : P.underlying t = some (.slice e)) (ho : o.op = .binOp .eql t x y ty) (hd : o.dst = some d) (hN : Nat.blt d (N / 2) = true) (hx : ev τ x = .sl n l) (hy : ev τ y = .nilsl)
  (h1 : l = [] → ROps P N all rest ((d, .b true) :: τ) Γ Q) (h2 : ROps P N all rest ((d, .b false) :: τ) Γ Q) : ROps P N all (o :: rest) τ Γ Q := by
 refine ROps.op hw ?_
 intro S0 μ0 w0 S μ a w hi next Q' hnx
 have k1 := hi.ci.ev x
 have k2 := hi.ci.ev y
 rw [hx] at k1
 rw [hy] at k2
 simp only [V] at k1 k2
 obtain ⟨ad, cap, k1, k3, k4⟩ := k1
 have hu : ∀ w, (underlying t).run P w = .ok (.slice e) w := run_underlying ht
 have fin : ∀ b : Bool, (execOp a.eval o).run P w = .ok (.value (.bool b)) w → ROps P N all rest ((d, .b b) :: τ) Γ Q → o.wp P a w next Q' := by
  intro b hrun hk
  unfold Oper.wp
  rw [hrun]
  refine hnx S μ (.bool b) w _ Γ (SExt.refl S) hk ⟨hi.fr, hi.wi, ?_, by rw [put_size]; exact hi.tsz, by rw [put_defers]; exact hi.dfr⟩
  have := hi.ci.put (dst := o.dst) (r := .b b) (v := .bool b) (fun d' hd' => by rw [hi.tsz.1]; rw [hd] at hd'; cases hd'; simpa using hN) (by simp only [V])
  rw [hd] at this ⊢
  exact this
 cases ad with
 | none =>
  refine fin true ?_ (h1 ?_)
  ·have : (Op.equal t (.slice none n cap) (.slice none 0 0)).run P w = .ok true w := by
    unfold Op.equal Op.maxDepth Op.equalIn; simp [hu]
   simp [execOp, ho, k1, k2, eqGuard, binOp, this]
  ·rcases k4 with h | ⟨b, off, cs, h, _⟩
   ·exact h
   ·cases h
 | some b =>
  refine fin false ?_ h2
  have : (Op.equal t (.slice (some b) n cap) (.slice none 0 0)).run P w = .ok false w := by
   unfold Op.equal Op.maxDepth Op.equalIn; simp [hu]
  simp [execOp, ho, k1, k2, eqGuard, binOp, this]
end
end Go.AM

namespace Go.AM
end Go.AM

namespace Go.AM
section
variable {P : Program} {N : Nat} {o : Oper} {τ : List (Nat × AV)} {Γ : List Ob} {Q : PQ}
theorem SelL.cells0 {sel0 sel : List (Nat × Nat)} {p s : Nat} {l l' : List AV} {Γ' : List Ob} (hp : Γ[p]? = some ⟨s, some l'⟩) (hr : AV.rens (sigma sel0) l = l') (hl : AV.lts sel0.length l = true) (h : SelL Γ sel0 sel Γ') : SelL Γ sel0 ((p, s) :: sel) (⟨0, some l⟩ :: Γ') :=
 SelL.cells (hp.trans (by rw [Nat.zero_add])) hr hl h
theorem lt_slk {α : Type} {f : α → AV} (hf : ∀ x, (f x).lt 0 = true) {k n : Nat} {l : List α} : (AV.sl n (l.map f)).lt k = true := by simp only [AV.lt, lts_map hf]
def fnarrow : F → Option F
 | none => some none
 | some b => match FloatKind.f64.decode b with
  | .nan _ _ => some none
  | .infinity s => some (some (FloatKind.f32.encode (.infinity s)))
  | .number s m e => if (FloatKind.f32.decode (FloatKind.f32.encode (.number s m e))).isInfinity then none else some (some (FloatKind.f32.encode (.number s m e)))
theorem run_narrow {b : Nat} {c y : F} (h : FR .f64 b c) (hy : fnarrow c = some y) (w : World) : ∃ r w', (Conv.floatToFloat .f64 b .f32).run P w = .ok (.float .f32 r) w' ∧ FR .f32 r y ∧ Grow w w' := by
 have hd : ¬ FloatKind.f64 = FloatKind.f32 := by decide
 cases c with
 | none =>
  obtain ⟨h1, h2⟩ := h
  have h2' : (FloatKind.f64.decode b).isNaN = true := h2
  have hy' := Option.some.inj hy
  subst hy'
  cases hdec : FloatKind.f64.decode b with
  | number s m e => rw [hdec] at h2'; cases h2'
  | infinity s => rw [hdec] at h2'; cases h2'
  | nan s t =>
   refine ⟨_, { w with drawn := w.drawn + 1 }, ?_, nan_cut_conv b (w.tape w.drawn (.nanConv .f32 b)), ⟨Nat.le_refl _, fun _ _ => rfl, rfl, rfl, rfl⟩⟩
   simp [Conv.floatToFloat, hdec, Question.forced]
 | some c =>
  obtain ⟨rfl, h1, h2⟩ := h
  have h2' : (FloatKind.f64.decode b).isNaN = false := h2
  unfold fnarrow at hy
  simp only at hy
  cases hdec : FloatKind.f64.decode b with
  | number s m e =>
   rw [hdec] at hy
   simp only at hy
   split at hy
   ·cases hy
   ·rename_i hi
    cases hy
    refine ⟨FloatKind.f32.encode (.number s m e), w, ?_, encode_FR .f32 rfl, Grow.refl w⟩
    simp only [Bool.not_eq_true] at hi
    simp [Conv.floatToFloat, hdec, hi]
  | infinity s =>
   rw [hdec] at hy
   simp only at hy
   cases hy
   refine ⟨FloatKind.f32.encode (.infinity s), w, ?_, encode_FR .f32 rfl, Grow.refl w⟩
   simp [Conv.floatToFloat, hdec]
  | nan s t => rw [hdec] at h2'; cases h2'
theorem TOp.narrow {src dst : TypeId} {x : Operand} {c y : F} (hs : ∃ d, P.underlying src = some d) (hd : P.underlying dst = some (.float .f32)) (ho : o.op = .convert src dst x) (hx : OpF τ x .f64 c) (hy : fnarrow c = some y) : TOp P o τ Γ (.f32 y) [] := by
 intro S μ Γ2 a w _ _ hw h next Q hn
 obtain ⟨d, hs⟩ := hs
 obtain ⟨b, e1, f1⟩ := hx S μ a (h x (by simp [ho, Op.operands]))
 obtain ⟨r, w', hrun, hr, hg⟩ := run_narrow (P := P) f1 hy w
 unfold Oper.wp
 have : (execOp a.eval o).run P w = .ok (.value (.float .f32 r)) w' := by
  cases d <;> simp [execOp, ho, e1, convert, run_underlying hs, run_underlying hd, hrun]
 rw [this]
 exact hn S μ _ w' (SExt.refl S) (SFresh.refl _ S) (MuStep.refl _ _ _) (hw.grow hg) (by simp only [V]; exact ⟨r, rfl, hr⟩) hg
def fsqrt (x : F) : F := x.bind fun b => FloatKind.f64.format.sqrt b
theorem root_notNaN {n : Nat} {d r : Ieee.Datum} (h : d.root n = some r) : r.isNaN = false := by
 cases d with
 | nan s t => simp [Ieee.Datum.root] at h
 | infinity s =>
  simp only [Ieee.Datum.root] at h
  split at h <;> simp at h
  subst h; rfl
 | number s m i =>
  simp only [Ieee.Datum.root] at h
  split at h
  ·simp at h; subst h; rfl
  ·split at h <;> simp at h
   subst h; rfl
theorem sqrt_FR {b c : Nat} (h : FloatKind.f64.format.sqrt b = some c) : FR .f64 c (some c) := by
 unfold Ieee.Format.sqrt at h
 obtain ⟨d, h1, h2⟩ := Option.map_eq_some_iff.1 h
 subst h2
 exact encode_FR .f64 (root_notNaN h1)
theorem sqrt_nan {b : Nat} (h : (FloatKind.f64.format.read b).isNaN = true) : FloatKind.f64.format.sqrt b = none := by
 unfold Ieee.Format.sqrt
 cases hd : FloatKind.f64.format.read b with
 | number s m e => rw [hd] at h; cases h
 | infinity s => rw [hd] at h; cases h
 | nan s t => rfl
theorem TOp.fsqrt {f : FuncId} {x : Operand} {tys : Array TypeId} {c : F} (hc : ∀ (b : Nat) w, (callFunc f #[.float .f64 b]).run P w = (do pure (Next.value (← Extern.MathSqrt.sqrt #[.float .f64 b])) : Sem Next).run P w) (ho : o.op = .call { callee := .value (.func f), args := #[x], argTypes := tys }) (hx : OpF τ x .f64 c) : TOp P o τ Γ (.f64 (fsqrt c)) [] := by
 intro S μ Γ2 a w _ _ hw h next Q hn
 obtain ⟨b, e1, f1⟩ := hx S μ a (h x (by simp [ho, Op.operands, Call.operands]))
 have hfe : a.eval (.func f) = .func (.func f) #[] #[] := rfl
 have hex : (execOp a.eval o).run P w = (do pure (Next.value (← Extern.MathSqrt.sqrt #[.float .f64 b])) : Sem Next).run P w := by
  rw [← hc]
  simp [execOp, ho, resolve, hfe, e1, Deferred.ofValue, invoke]
 have key : ∃ r w', (do pure (Next.value (← Extern.MathSqrt.sqrt #[.float .f64 b])) : Sem Next).run P w = .ok (.value (.float .f64 r)) w' ∧ FR .f64 r (AM.fsqrt c) ∧ Grow w w' := by
  have hsq : Extern.MathSqrt.sqrt #[.float .f64 b] = (match FloatKind.f64.format.sqrt b with | some r => pure (.float .f64 r) | none => do pure (.float .f64 (← choose (.nanBits .f64 b b)))) := rfl
  rw [hsq]
  cases hs : FloatKind.f64.format.sqrt b with
  | some r =>
   refine ⟨r, w, by simp, ?_, Grow.refl w⟩
   cases c with
   | none => rw [sqrt_nan f1.2] at hs; cases hs
   | some c =>
    obtain ⟨rfl, _⟩ := f1
    show FR .f64 r (FloatKind.f64.format.sqrt b)
    rw [hs]; exact sqrt_FR hs
  | none =>
   refine ⟨_, { w with drawn := w.drawn + 1 }, by simp [Question.forced]; rfl, ?_, ⟨Nat.le_refl _, fun _ _ => rfl, rfl, rfl, rfl⟩⟩
   have : AM.fsqrt c = none := by
    cases c with
    | none => rfl
    | some c => obtain ⟨rfl, _⟩ := f1; exact hs
   rw [this]
   exact nan_cut b b _
 obtain ⟨r, w', hrun, hr, hg⟩ := key
 unfold Oper.wp
 rw [hex, hrun]
 exact hn S μ _ w' (SExt.refl S) (SFresh.refl _ S) (MuStep.refl _ _ _) (hw.grow hg) (by simp only [V]; exact ⟨r, rfl, hr⟩) hg
theorem WeakLe.trans {τ τ' : List (Nat × AV)} (h : WeakLe τ τ') : ∀ {τ'' : List (Nat × AV)}, WeakLe τ' τ'' → WeakLe τ τ''
 | [], _ => trivial
 | (_, _) :: _, k => ⟨fun S μ v hv => k.1 S μ v (WeakLe.look hv h), WeakLe.trans h k.2⟩
theorem DeadLe.trans : ∀ {Γ Γ' Γ'' : List Ob}, DeadLe Γ Γ' → DeadLe Γ' Γ'' → DeadLe Γ Γ''
 | [], [], [], _, _ => trivial
 | g :: l, g' :: l', g'' :: l'', h, k => ⟨⟨k.1.1.trans h.1.1, by
   rcases k.1.2 with e | e
   ·exact .inl e
   ·rw [e]; exact h.1.2⟩, DeadLe.trans h.2 k.2⟩
 | [], [], _ :: _, _, k => k.elim
 | [], _ :: _, _, h, _ => h.elim
 | _ :: _, [], _, h, _ => h.elim
 | _ :: _, _ :: _, [], _, k => k.elim
theorem bodyQ.wl {fn : Func} {e : Exit} {k : Nat} {r : AV} {Γo : List Ob} {τ' : List (Nat × AV)} {Γ' : List Ob} (hw : WeakLe τ τ') (hd : DeadLe Γ Γ') (h : bodyQ P fn k r Γo e τ' Γ') : bodyQ P fn k r Γo e τ Γ := by
 obtain ⟨he, sel, hk, hid, hres, hlt, hl, hn, hs⟩ := h
 refine ⟨he, sel, hk, hid, fun S μ a w h1 h2 => hres S μ a w (h1.dead hd) fun t => WeakLe.look (h2 t) hw, hlt, hl, hn, fun i g' hg => ?_⟩
 obtain ⟨g, k1, k2, k3⟩ := hs i g' hg
 obtain ⟨g0, j1, j2, j3⟩ := hd.at k1
 refine ⟨g0, j1, j2.symm.trans k2, fun l hl' => ⟨(k3 l hl').1, ?_⟩⟩
 have := (k3 l hl').2
 rcases j3 with e | e
 ·rw [e] at this; cases this
 ·rw [← e]; exact this
end
end Go.AM

namespace Go.AM
section
variable {P : Program} {N : Nat} {o : Oper} {τ : List (Nat × AV)} {Γ : List Ob} {Q : PQ}
theorem wp_monoQ {a : Act} {w : World} {K : Act → World → Prop} {Q Q' : Exit → Act → World → Prop} (h : ∀ c a w, Q (.panic c) a w → Q' (.panic c) a w) (hl : LetsOut Q → LetsOut Q') (hh : o.wp P a w K Q) : o.wp P a w K Q' := by
 unfold Oper.wp at *
 generalize (execOp a.eval o).run P w = r at *
 cases r with
 | ok n w' =>
  cases n <;> simp only [Oper.upon] at hh ⊢ <;>
   first
    | exact hh
    | exact Calls.mono hh (fun e w'' he => by cases e <;> first | exact h _ _ _ he | exact hl he | exact he)
 | halt x w' => cases x <;> simp only [Oper.upon] at hh ⊢ <;> first | exact h _ _ _ hh | exact hh
def RAny (P : Program) (N : Nat) (all : Array Oper) (fuel : Nat) (listed : Array Bool) (τ : List (Nat × AV)) (Γ : List Ob) (Q : PQ) : Prop :=
 ∀ S0 μ0 w0 S μ a w, Inv S0 μ0 w0 N S μ τ Γ a w → wpAnyH P .any all (Post S0 μ0 w0 N (np Q)) (fun _ => True) fuel listed a w
theorem RunC.any {id n : Nat} {l : List Oper} (hn : l.length = n) (hm : P.follows .mixedOrders = true) (h : RAny P N l.toArray n (Array.replicate n false) τ Γ Q) : RunC P N (.region id l.toArray true) τ Γ Q := by
 subst hn
 intro S0 μ0 w0 S μ a w hi
 have hg : Grow w { w with drawn := w.drawn + 1 } := ⟨Nat.le_refl _, fun _ _ => rfl, rfl, rfl, rfl⟩
 have key := h S0 μ0 w0 S μ a { w with drawn := w.drawn + 1 } ⟨hi.fr.grow (fs := []) (SExt.refl S) (SFresh.refl _ S) (MuStep.refl _ _ _) hg, ⟨hi.wi.snap, hi.wi.len, hi.wi.ver, hi.wi.own, hi.wi.sep⟩, hi.ci, hi.tsz, hi.dfr⟩
 refine wp_mono (wp_region_held hm key) ?_
 rintro e a' w' ⟨S', μ', τ', Γ', hq, hi'⟩
 cases e <;> first | exact hq.elim | exact ⟨S', μ', τ', Γ', hq, hi'⟩
theorem RAny.done {all : Array Oper} {listed : Array Bool} (hr : Region.ready .any all listed = []) (h : Q .normal τ Γ) : RAny P N all 0 listed τ Γ Q :=
 fun _ _ _ S μ _ _ hi => ⟨hr, ⟨S, μ, τ, Γ, h, hi⟩⟩
def RAnys (P : Program) (N : Nat) (all : Array Oper) (fuel : Nat) (listed : Array Bool) (τ : List (Nat × AV)) (Γ : List Ob) (Q : PQ) : List Nat → Prop
 | [] => True
 | i :: l => (∃ o, all[i]? = some o ∧ ROps P N all [o] τ Γ (thenQ (fun τ Γ => RAny P N all fuel (listed.setIfInBounds i true) τ Γ Q) (np Q))) ∧ RAnys P N all fuel listed τ Γ Q l
theorem RAnys.nil {all : Array Oper} {fuel : Nat} {listed : Array Bool} : RAnys P N all fuel listed τ Γ Q [] := trivial
theorem RAnys.cons {all : Array Oper} {fuel i : Nat} {listed : Array Bool} {l : List Nat} {o : Oper} (ho : all[i]? = some o) (h : ROps P N all [o] τ Γ (thenQ (fun τ Γ => RAny P N all fuel (listed.setIfInBounds i true) τ Γ Q) (np Q))) (h2 : RAnys P N all fuel listed τ Γ Q l) : RAnys P N all fuel listed τ Γ Q (i :: l) := ⟨⟨o, ho, h⟩, h2⟩
theorem RAnys.mem {all : Array Oper} {fuel : Nat} {listed : Array Bool} : ∀ {l : List Nat}, RAnys P N all fuel listed τ Γ Q l → ∀ i ∈ l, ∃ o, all[i]? = some o ∧ ROps P N all [o] τ Γ (thenQ (fun τ Γ => RAny P N all fuel (listed.setIfInBounds i true) τ Γ Q) (np Q))
 | [], _, i, hi => by cases hi
 | j :: l, h, i, hi => by
  rcases List.mem_cons.1 hi with e | hi
  ·subst e; exact h.1
  ·exact RAnys.mem h.2 i hi
theorem RAny.more {all : Array Oper} {fuel : Nat} {listed : Array Bool} {i0 : Nat} {l : List Nat} (hr : Region.ready .any all listed = i0 :: l) (h : RAnys P N all fuel listed τ Γ Q (i0 :: l)) : RAny P N all (fuel + 1) listed τ Γ Q := by
 intro S0 μ0 w0 S μ a w hi
 unfold wpAnyH
 refine And.intro (fun e => by rw [hr] at e; cases e) (fun i hm => ?_)
 rw [hr] at hm
 obtain ⟨o, ho, hR⟩ := h.mem i hm
 have h0 := hR S0 μ0 w0 S S μ a w (SExt.refl S) hi
 have hnext : ∀ a w, Post S0 μ0 w0 N (thenQ (fun τ Γ => RAny P N all fuel (listed.setIfInBounds i true) τ Γ Q) (np Q)) .normal a w → wpAnyH P .any all (Post S0 μ0 w0 N (np Q)) (fun _ => True) fuel (listed.setIfInBounds i true) a w := by
  rintro a w ⟨S', μ', τ', Γ', hk, hi'⟩
  exact hk S0 μ0 w0 S' μ' a w hi'
 simp only [wpL] at h0
 unfold wpOp
 rw [ho]
 dsimp only
 split
 ·rename_i e
  rw [if_pos e] at h0
  refine .inl (wp_monoQ (Q := Post S0 μ0 w0 N (thenQ (fun τ Γ => RAny P N all fuel (listed.setIfInBounds i true) τ Γ Q) (np Q))) (fun c a w hc => hc) (fun hc => ?_) (Oper.wp_mono ?_ h0))
  ·simpa [LetsOut, Post, thenQ] using hc
  ·exact fun a w h => ⟨trivial, hnext a w h.2⟩
 ·rename_i e
  rw [if_neg e] at h0
  exact ⟨trivial, hnext _ _ h0⟩
end
end Go.AM

namespace Go.AM
section
variable {P : Program} {N : Nat} {τ τ' : List (Nat × AV)} {Γ Γ' : List Ob}
def Le (N : Nat) (τ : List (Nat × AV)) (Γ : List Ob) (τ' : List (Nat × AV)) (Γ' : List Ob) : Prop :=
 ∀ (S0 : Snap) (μ0 : List Mu) (w0 : World) (S : Snap) (μ : List Mu) (a : Act) (w : World), Inv S0 μ0 w0 N S μ τ Γ a w → ∃ S' μ', Inv S0 μ0 w0 N S' μ' τ' Γ' a w
theorem Le.of (hw : WeakLe τ τ') (hd : DeadLe Γ Γ') : Le N τ Γ τ' Γ' :=
 fun _ _ _ S μ _ _ hi => ⟨S, μ, hi.fr, hi.wi.dead hd, fun t => WeakLe.look (hi.ci t) hw, hi.tsz, hi.dfr⟩
theorem RunC.le {c : Code} {Q : PQ} (hl : Le N τ Γ τ' Γ') (h : RunC P N c τ' Γ' Q) : RunC P N c τ Γ Q := by
 intro S0 μ0 w0 S μ a w hi
 obtain ⟨S', μ', hi'⟩ := hl _ _ _ _ _ _ _ hi
 exact h _ _ _ _ _ _ _ hi'
end
end Go.AM

namespace Go.AM
section
variable {P : Program} {N : Nat} {τ τ' : List (Nat × AV)} {Γ Γ' : List Ob}
end
end Go.AM

namespace Go.AM
section
variable {P : Program} {o : Oper} {τ : List (Nat × AV)}
end
end Go.AM

namespace Go.AM
section
variable {P : Program} {N : Nat} {τ : List (Nat × AV)} {Γ : List Ob} {Q : PQ} {o : Oper}
end
end Go.AM

namespace Go.AM
section
variable {P : Program} {o : Oper} {τ : List (Nat × AV)}
end
end Go.AM

namespace Go.AM
section
variable {P : Program} {o : Oper} {τ : List (Nat × AV)}
end
end Go.AM

namespace Go.AM
section
variable {P : Program} {o : Oper} {τ : List (Nat × AV)} {Γ : List Ob}
end
end Go.AM

namespace Go.AM
section
variable {P : Program} {o : Oper} {τ : List (Nat × AV)} {Γ : List Ob}
def ishr (k : IntKind) (m n : Int) : Int := m.fdiv (2 ^ (min n.toNat k.bits))
theorem LOp.shr {t ty : TypeId} {x y : Operand} {k yk : IntKind} {m n : Int} (ho : o.op = .binOp .shr t x y ty) (hx : ev τ x = .x (.int k m)) (hy : ev τ y = .x (.int yk n)) (hn : 0 ≤ n) : LOp P o τ (.x (.int k (ishr k m n))) :=
 LOp.bin ho hx hy fun w => by simp [eqGuard, binOp, Op.shift, show ¬ n < 0 from by omega, ishr]
def iand (k : IntKind) (m n : Int) : Int := k.wrap ((BitVec.ofInt k.bits m &&& BitVec.ofInt k.bits n).toNat : Int)
theorem LOp.iand {t ty : TypeId} {x y : Operand} {k : IntKind} {m n : Int} (ho : o.op = .binOp .and t x y ty) (hx : ev τ x = .x (.int k m)) (hy : ev τ y = .x (.int k n)) : LOp P o τ (.x (.int k (AM.iand k m n))) :=
 LOp.bin ho hx hy fun w => by simp [eqGuard, binOp, Op.intBits, AM.iand]
end
end Go.AM

namespace Go.AM
section
variable {P : Program} {o : Oper} {τ : List (Nat × AV)} {Γ : List Ob}
def ishl (k : IntKind) (m n : Int) : Int := k.wrap (m * 2 ^ (min n.toNat k.bits))
theorem LOp.shl {t ty : TypeId} {x y : Operand} {k yk : IntKind} {m n : Int} (ho : o.op = .binOp .shl t x y ty) (hx : ev τ x = .x (.int k m)) (hy : ev τ y = .x (.int yk n)) (hn : 0 ≤ n) : LOp P o τ (.x (.int k (ishl k m n))) :=
 LOp.bin ho hx hy fun w => by simp [eqGuard, binOp, Op.shift, show ¬ n < 0 from by omega, ishl]
def ior (k : IntKind) (m n : Int) : Int := k.wrap ((BitVec.ofInt k.bits m ||| BitVec.ofInt k.bits n).toNat : Int)
theorem LOp.ior {t ty : TypeId} {x y : Operand} {k : IntKind} {m n : Int} (ho : o.op = .binOp .or t x y ty) (hx : ev τ x = .x (.int k m)) (hy : ev τ y = .x (.int k n)) : LOp P o τ (.x (.int k (AM.ior k m n))) :=
 LOp.bin ho hx hy fun w => by simp [eqGuard, binOp, Op.intBits, AM.ior]
def iandn (k : IntKind) (m n : Int) : Int := k.wrap ((BitVec.ofInt k.bits m &&& ~~~(BitVec.ofInt k.bits n)).toNat : Int)
theorem LOp.iandn {t ty : TypeId} {x y : Operand} {k : IntKind} {m n : Int} (ho : o.op = .binOp .andNot t x y ty) (hx : ev τ x = .x (.int k m)) (hy : ev τ y = .x (.int k n)) : LOp P o τ (.x (.int k (AM.iandn k m n))) :=
 LOp.bin ho hx hy fun w => by simp [eqGuard, binOp, Op.intBits, AM.iandn]
end
end Go.AM

namespace Go.AM
section
variable {P : Program} {N : Nat} {o : Oper} {τ : List (Nat × AV)} {Γ : List Ob} {Q : PQ}
def POp (P : Program) (o : Oper) (τ : List (Nat × AV)) (r : AV) : Prop :=
 ∀ (S : Snap) (μ : List Mu) (a : Act), (∀ x ∈ o.op.operands, V S μ (ev τ x) (a.eval x)) → ∃ v : Value, (∀ w : World, (execOp a.eval o).run P w = .ok (.value v) w) ∧ V S μ r v
theorem POp.move {x : Operand} {r : AV} (ho : o.op = .move x) (hx : ev τ x = r) : POp P o τ r := by
 intro S μ a h
 exact ⟨a.eval x, fun w => by simp [execOp, ho], opnd h (by simp [ho, Op.operands]) hx⟩
theorem POp.fao {s : TypeId} {x : Operand} {f : Nat} {fs : Array Field} {fd : Field} {n p ver off off' : Nat} (hs : ∀ w, (underlying s).run P w = .ok (.struct fs) w) (hf : fs[f]? = some fd) (hn : ∀ w, (sizeOf fd.type).run P w = .ok (n + 1) w)
  (ho : o.op = .fieldAddr s x f) (hx : ev τ x = .optr p ver off) (hr : off + fd.offset = off') : POp P o τ (.optr p ver off') := by
 subst hr
 intro S μ a h
 have h1 := opnd h (x := x) (by simp [ho, Op.operands]) hx
 simp only [V] at h1
 obtain ⟨m, ad, h1, h2, h3, h4⟩ := h1
 refine ⟨.pointer (some (ad.add fd.offset)), fun w => ?_, ?_⟩
 ·simp [execOp, ho, h3, Instr.fieldAt, hs, hf, Instr.sureAddr, fieldPlace, hn]
 ·simp only [V]
  refine ⟨m, _, h1, h2, rfl, fun e => ?_⟩
  obtain ⟨b, hb, rfl, hmp⟩ := h4 e
  exact ⟨b, hb, Addr.add_mk _ _ _, hmp⟩
theorem RAny.take {all : Array Oper} {fuel : Nat} {listed : Array Bool} (i : Nat) {r : AV} (ho : all[i]? = some o) (hs : Region.noSelect all = true) (hf : Region.free .any all listed i = true) (hr : (Region.ready .any all listed).contains i = true) (hw : wantT all τ o = some true) (hd : dstLt N o = true) (hp : POp P o τ r)
  (h : RAny P N all fuel (listed.setIfInBounds i true) (put τ o.dst r) Γ Q) : RAny P N all (fuel + 1) listed τ Γ Q := by
 intro S0 μ0 w0 S μ a w hi
 obtain ⟨v, hrun, hv⟩ := hp S μ a (fun x _ => hi.ci.ev x)
 refine wpAnyH_take ho hs hf hr (fun c a w hc => ?_) (.inl ⟨wantT_spec hw fun j want d _ _ => hi.ci d, fun w' _ => hrun w'⟩) trivial (h S0 μ0 w0 S μ _ w ?_)
 ·obtain ⟨_, _, _, _, hq, _⟩ := hc; exact hq.elim
 ·exact ⟨hi.fr, hi.wi, hi.ci.put (fun d hd' => by rw [hi.tsz.1]; exact dstLt_spec hd d hd') hv, by rw [put_size]; exact hi.tsz, by rw [put_defers]; exact hi.dfr⟩
theorem flat_drop {α : Type} {f : α → List AV} {k : Nat} (hk : ∀ y, (f y).length = k) : ∀ (l : List α) (i : Nat) (y : α), l[i]? = some y → ∃ r, (l.flatMap f).drop (i * k) = f y ++ r
 | [], i, y, h => by simp at h
 | a :: l, 0, y, h => by
  simp at h; subst h
  exact ⟨l.flatMap f, by simp⟩
 | a :: l, i + 1, y, h => by
  obtain ⟨r, hr⟩ := flat_drop hk l i y (by simpa using h)
  refine ⟨r, ?_⟩
  rw [List.flatMap_cons, Nat.succ_mul, Nat.add_comm, ← List.drop_drop, List.drop_left' (hk a), hr]
theorem LOp.ixW {α : Type} {f : α → List AV} {l : List α} {y : α} {t e : TypeId} {x ix : Operand} {kk : IntKind} {i : Int} {n k : Nat} (hk : ∀ y, (f y).length = k + 1) (ht : ∀ w, (underlying t).run P w = .ok (.slice e) w) (he : ∀ w, (sizeOf e).run P w = .ok (k + 1) w)
  (ho : o.op = .indexAddr t x ix) (hx : ev τ x = .sl n (l.flatMap f)) (hn : l.length = n) (hi : ev τ ix = .x (.int kk i)) (hy : at? l i = some y) : LOp P o τ (.ptr (f y)) := by
 obtain ⟨h0, h1, h2⟩ := at?_spec hy
 obtain ⟨r, hr⟩ := flat_drop hk l i.toNat y h2
 intro S μ a h
 have k1 := opnd h (x := x) (by simp [ho, Op.operands]) hx
 have k2 := opnd h (x := ix) (by simp [ho, Op.operands]) hi
 simp only [V] at k1 k2
 obtain ⟨ad, cap, k1, _, k3⟩ := k1
 rcases k3 with k3 | ⟨b, off, cs, rfl, k4, k5⟩
 ·rw [k3, List.drop_nil] at hr
  have := congrArg List.length hr
  simp [hk] at this
  omega
 ·refine ⟨.pointer (some ⟨b, off + i.toNat * (k + 1), none⟩), fun w _ => ?_, ?_⟩
  ·have hin : i < n := by omega
   simp [execOp, ho, k1, k2, Instr.indexAt, asIntOf, ht, he, h0, hin, Addr.add_mk]
  ·simp only [V]
   refine ⟨b, _, cs, rfl, k4, ?_⟩
   have k6 := k5.drop (i.toNat * (k + 1))
   rw [hr] at k6
   have k7 := k6.take (f y).length
   rw [List.take_left' rfl] at k7
   rw [← List.drop_drop]; exact k7
theorem lts_flat {α : Type} {f : α → List AV} (hf : ∀ x, AV.lts 0 (f x) = true) : ∀ l : List α, AV.lts 0 (l.flatMap f) = true
 | [] => rfl
 | a :: l => by
  have h := lts_flat hf l
  have ha := hf a
  rw [List.flatMap_cons]
  generalize l.flatMap f = y at *
  generalize f a = x at *
  clear hf
  induction x with
  | nil => exact h
  | cons b x ih =>
   simp only [AV.lts, Bool.and_eq_true, List.cons_append] at ha ⊢
   exact ⟨ha.1, ih ha.2⟩
end
end Go.AM

namespace Go.AM
section
variable {P : Program} {o : Oper} {τ : List (Nat × AV)} {Γ : List Ob}
structure PKey (P : Program) (k : TypeId) : Prop where
 chk : ∀ em a b w, (Instr.checkKey em 10000 k (pk a b)).run P w = .ok () w
 eq : ∀ a b c d w, (Op.equal k (pk a b) (pk c d)).run P w = .ok (decide (a = c ∧ b = d)) w
 und : ∃ fs, ∀ w, (underlying k).run P w = .ok (.struct fs) w
theorem PKey.of {k t1 t2 : TypeId} {f1 f2 : Field} (hf : P.fieldsOf k = #[f1, f2]) (hk : P.underlying k = some (.struct #[f1, f2])) (hp : P.stoodInHeld k = false) (n1 : f1.name ≠ "_") (n2 : f2.name ≠ "_")
  (o1 : f1.offset = 0) (o2 : f2.offset = 1) (e1 : f1.type = t1) (e2 : f2.type = t2) (u1 : P.underlying t1 = some (.int .i64)) (u2 : P.underlying t2 = some (.int .i64)) (a1 : ∀ w, (isAgg t1).run P w = .ok false w) (a2 : ∀ w, (isAgg t2).run P w = .ok false w) : PKey P k where
 chk em a b w := by
  have c1 : ∀ n x w, (Instr.checkKey em (n + 1) t1 (.int .i64 x)).run P w = .ok () w := fun n x w => by simp [Instr.checkKey, run_underlying u1]
  have c2 : ∀ n x w, (Instr.checkKey em (n + 1) t2 (.int .i64 x)).run P w = .ok () w := fun n x w => by simp [Instr.checkKey, run_underlying u2]
  rw [show (10000 : Nat) = 9998 + 1 + 1 from rfl, Instr.checkKey]
  simp only [Sem.run_bind, run_underlying hk, Result.andThen_ok, pk]
  simp [← Array.forIn_toList, part, n1, n2, o1, o2, e1, e2, a1, a2, c1, c2]
 eq a b c d w := by
  have hS : P.underlying k = some (.struct (P.fieldsOf k)) := by rw [hf]; exact hk
  have q1 : ∀ n x y w, (Op.equalIn (n + 1) t1 (.int .i64 x) (.int .i64 y)).run P w = .ok (x == y) w := fun n x y w => run_equalIn_int w n t1 .i64 .i64 x y u1
  have q2 : ∀ n x y w, (Op.equalIn (n + 1) t2 (.int .i64 x) (.int .i64 y)).run P w = .ok (x == y) w := fun n x y w => run_equalIn_int w n t2 .i64 .i64 x y u2
  show (Op.equalIn (9998 + 1 + 1) k (pk a b) (pk c d)).run P w = _
  unfold pk
  rw [run_equalIn_agg w (9998 + 1) k _ _ hS hp, hf]
  simp [Op.eqFields, n1, n2, o1, o2, e1, e2, part, a1, a2, q1, q2]
  by_cases h1 : a = c <;> by_cases h2 : b = d <;> simp [h1, h2]
 und := ⟨#[f1, f2], fun w => by simp [run_underlying hk]⟩
def mpf (e : Int × Int × F) : AV := .agg [.agg [.i64 e.1, .i64 e.2.1], .f32 e.2.2]
def mpx (mk : List AV) (L : List (Int × Int × F)) : List AV := L.map mpf ++ [.tup mk]
abbrev mpc (L : List (Int × Int × F)) : List AV := mpx [] L
def mget : List (Int × Int × F) → Int → Int → Option F
 | [], _, _ => none
 | (r, c, x) :: l, a, b => if a = r ∧ b = c then some x else mget l a b
def mput : List (Int × Int × F) → Int → Int → F → List (Int × Int × F)
 | [], a, b, y => [(a, b, y)]
 | (r, c, x) :: l, a, b, y => if a = r ∧ b = c then (a, b, y) :: l else (r, c, x) :: mput l a b y
def mdel (L : List (Int × Int × F)) (a b : Int) : List (Int × Int × F) := L.filter fun e => !(decide (e.1 = a) && decide (e.2.1 = b))
def ME : List (Int × Int × F) → List MapEntry → Prop
 | [], [] => True
 | (r, c, x) :: l, e :: es => e.key = pk r c ∧ (∃ b, e.val = .float .f32 b ∧ FR .f32 b x) ∧ ME l es
 | _, _ => False
theorem pk_inj {a b c d : Int} (h : pk a b = pk c d) : a = c ∧ b = d := by simpa [pk] using h
theorem vp_mpx {S : Snap} {μ : List Mu} {mk : List AV} {mv : Array Value} : ∀ {L : List (Int × Int × F)} {es : List MapEntry}, VP S μ (mpx mk L) (es.map mval ++ [.tuple mv]) ↔ ME L es ∧ VL S μ mk mv.toList
 | [], [] => by
  simp only [mpx, List.map_nil, List.nil_append, VP, V, ME, true_and, and_true]
  constructor
  ·rintro ⟨cs, h1, h2⟩
   cases h1; exact h2
  ·intro h; exact ⟨_, rfl, h⟩
 | [], e :: es => by simp [mpx, VP, V, ME, mval]
 | x :: L, [] => by
  obtain ⟨r, c, x⟩ := x
  simp [mpx, VP, V, ME, mpf]
 | (r, c, x) :: L, e :: es => by
  have ih := vp_mpx (S := S) (μ := μ) (mk := mk) (mv := mv) (L := L) (es := es)
  simp only [mpx] at ih
  simp only [mpx, List.map_cons, List.cons_append, VP, ME, ih]
  have : V S μ (mpf (r, c, x)) (mval e) ↔ e.key = pk r c ∧ ∃ b, e.val = .float .f32 b ∧ FR .f32 b x := by
   simp only [mpf, mval, V]
   constructor
   ·rintro ⟨cs, h1, h2⟩
    cases h1
    simp only [VL] at h2
    obtain ⟨⟨cs, h3, h4⟩, h5, _⟩ := h2
    refine ⟨?_, h5⟩
    obtain ⟨l⟩ := cs
    match l, h4 with
    | [u, v], h4 => simp only [VL, V] at h4; obtain ⟨rfl, rfl, _⟩ := h4; exact h3
    | [], h4 => simp only [VL] at h4
    | [_], h4 => simp only [VL] at h4; exact h4.2.elim
    | _ :: _ :: _ :: _, h4 => simp only [VL] at h4; exact h4.2.2.elim
   ·rintro ⟨h1, h2⟩
    refine ⟨_, rfl, ?_⟩
    simp only [VL]
    exact ⟨⟨_, h1, by simp [VL, V]⟩, h2, trivial⟩
  rw [this]
  simp only [and_assoc]
theorem run_findKey {k : TypeId} (K : PKey P k) (x : Value) (es : List MapEntry) (w : World) : (Instr.findKey k x es).run P w = (Instr.findAsking k x es 0).run P w := by
 obtain ⟨fs, hu⟩ := K.und
 unfold Instr.findKey
 simp only [Sem.run_bind, hu, Result.andThen_ok]
 cases es with
 | nil => simp [Instr.findNow, Instr.findAsking]
 | cons e es => simp [Instr.findNow, Instr.sameNow]
def AllPk (es : List MapEntry) : Prop := ∀ e ∈ es, ∃ a b, e.key = pk a b
theorem ME.pk : ∀ {L : List (Int × Int × F)} {es : List MapEntry}, ME L es → AllPk es
 | [], [], _ => fun e he => by cases he
 | [], _ :: _, h => h.elim
 | _ :: _, [], h => by simp [ME] at h
 | (r, c, x) :: L, e :: es, h => by
  simp only [ME] at h
  intro e' he
  rcases List.mem_cons.1 he with rfl | he
  ·exact ⟨r, c, h.1⟩
  ·exact ME.pk h.2.2 e' he
theorem run_asking {k : TypeId} (K : PKey P k) (a b : Int) (w : World) : ∀ {es : List MapEntry} (i : Nat), AllPk es →
  ((∀ e ∈ es, e.key ≠ pk a b) ∧ (Instr.findAsking k (pk a b) es i).run P w = .ok none w) ∨ ∃ j e, es[j]? = some e ∧ e.key = pk a b ∧ (Instr.findAsking k (pk a b) es i).run P w = .ok (some (i + j, e.val)) w
 | [], i, _ => .inl ⟨fun e he => (by cases he), by simp [Instr.findAsking]⟩
 | e :: es, i, h => by
  obtain ⟨r, c, h1⟩ := h e (by simp)
  have h' : AllPk es := fun e' he => h e' (by simp [he])
  by_cases hk : a = r ∧ b = c
  ·refine .inr ⟨0, e, rfl, by rw [h1, hk.1, hk.2], ?_⟩
   simp [Instr.findAsking, h1, K.eq, hk]
  ·have hf : (Instr.findAsking k (AM.pk a b) (e :: es) i).run P w = (Instr.findAsking k (AM.pk a b) es (i + 1)).run P w := by
    simp [Instr.findAsking, h1, K.eq, hk]
   rcases run_asking K a b w (i + 1) h' with ⟨k1, k2⟩ | ⟨j, e', k1, k2, k3⟩
   ·refine .inl ⟨fun e' he => ?_, by rw [hf, k2]⟩
    rcases List.mem_cons.1 he with rfl | he
    ·rw [h1]; intro hh; have := pk_inj hh; exact hk ⟨this.1.symm, this.2.symm⟩
    ·exact k1 e' he
   ·exact .inr ⟨j + 1, e', by simpa using k1, k2, by rw [hf, k3]; congr 3; omega⟩
theorem mget_cases (a b : Int) : ∀ {L : List (Int × Int × F)} {es : List MapEntry}, ME L es →
  (mget L a b = none ∧ ∀ e ∈ es, e.key ≠ pk a b) ∨ ∃ x e, mget L a b = some x ∧ e ∈ es ∧ e.key = pk a b ∧ ∃ bb, e.val = .float .f32 bb ∧ FR .f32 bb x
 | [], [], _ => .inl ⟨rfl, fun e he => by cases he⟩
 | [], _ :: _, h => h.elim
 | _ :: _, [], h => by simp [ME] at h
 | (r, c, x) :: L, e :: es, h => by
  simp only [ME] at h
  by_cases hk : a = r ∧ b = c
  ·exact .inr ⟨x, e, by simp [mget, hk], by simp, by rw [h.1, hk.1, hk.2], h.2.1⟩
  ·rcases mget_cases a b h.2.2 with ⟨h1, h2⟩ | ⟨y, e', h1, h2, h3⟩
   ·refine .inl ⟨by simp [mget, hk, h1], fun e' he => ?_⟩
    rcases List.mem_cons.1 he with rfl | he
    ·rw [h.1]; intro hh; have := pk_inj hh; exact hk ⟨this.1.symm, this.2.symm⟩
    ·exact h2 e' he
   ·exact .inr ⟨y, e', by simp [mget, hk, h1], by simp [h2], h3⟩
theorem key_unique {es : List MapEntry} (h : es.Pairwise (fun a b => a.key ≠ b.key)) {e e' : MapEntry} (he : e ∈ es) (he' : e' ∈ es) (hk : e.key = e'.key) : e = e' := by
 induction es with
 | nil => cases he
 | cons x es ih =>
  rw [List.pairwise_cons] at h
  rcases List.mem_cons.1 he with rfl | he1
  ·rcases List.mem_cons.1 he' with rfl | he2
   ·rfl
   ·exact absurd hk (h.1 e' he2)
  ·rcases List.mem_cons.1 he' with rfl | he2
   ·exact absurd hk.symm (h.1 e he1)
   ·exact ih h.2 he1 he2
theorem own_map {S : Snap} {μ : List Mu} {w : World} (hw : WI S μ Γ w) {p ver : Nat} {L : List (Int × Int × F)} {mk : List AV} (hp : Γ[p]? = some ⟨ver, some (mpx mk L)⟩) {m : Mu} (hm : μ[p]? = some m) {b : Nat} (hb : m.blk = some b) (hmp : m.mp = true) :
  ∃ es clk es' mv, w.heap[b]? = some (.map es clk) ∧ MapOk es.toList clk es' mv ∧ ME L es' ∧ VL S μ mk mv.toList ∧ S b = none := by
 obtain ⟨cs, T, e1, e2, e3, e4⟩ := own_any hw hp hm hb
 unfold Img at e2
 rw [hmp] at e2
 rcases e2 with ⟨es, clk, es', mv, rfl, k1, k2⟩ | ⟨mb, since, seen, last, ds, rfl, k1, k2⟩
 ·rw [k2] at e3
  obtain ⟨q1, q2⟩ := vp_mpx.1 e3
  exact ⟨es, clk, es', mv, e1, k1, q1, q2, e4⟩
 ·rw [k2] at e3
  cases L with
  | nil => simp [mpx, VP, V] at e3
  | cons x L => simp [mpx, VP, V, mpf] at e3
theorem run_getObj {w : World} {b : Nat} {es : Array MapEntry} {clk : Nat} (h : w.heap[b]? = some (.map es clk)) : (getObj b).run P w = .ok (.map es clk) w := MapKept.run_getObj_map h
theorem TOp.mkMap {t : TypeId} (p : Nat) {g : Ob} (hp : Γ[p]? = some g) (ho : o.op = .makeMap t none) : TOp P o τ Γ (.mref p (g.ver + 1)) [(p, [.tup []])] := by
 intro S μ Γ2 a w _ hd hw h next Q hn
 unfold Oper.wp
 have : (execOp a.eval o).run P w = .ok (.value (.map (some w.heap.size))) (w.alloc (.map #[] 0)) := by
  simp [execOp, ho, Instr.makeMap]
 rw [this]
 have hG : Grow w (w.alloc (.map #[] 0)) := ⟨by simp, fun b hb => heap_alloc_old w _ hb, rfl, rfl, rfl⟩
 have hp2 : Γ2[p]? = some g := (hd (p, [.tup []]) (by simp)).trans hp
 obtain ⟨h1, h2⟩ := hw.fill_any hG (l := [.tup []]) (mn := ⟨g.ver + 1, some w.heap.size, 0, 0, true⟩) (cs := #[.tuple #[]]) hp2 rfl (fun b hb => by
  cases hb
  exact ⟨Nat.le_refl _, _, heap_alloc_new w _, .inl ⟨#[], 0, [], #[], rfl, ⟨⟨by simp, by simp⟩, by simp, by simp, fun s a b h => by simp at h, fun es0 clk0 h => by simp at h⟩, by simp⟩⟩) (by simp) (by simp [VP, V, VL])
 refine hn S _ _ _ (SExt.refl S) (SFresh.refl _ S) h2 (by rw [fillOb_one hp2]; exact h1) ?_ hG
 have hml : p < μ.length := by rw [hw.len]; exact lt_of_getElem? hp2
 simp only [V]
 exact ⟨_, _, by simp [hml]; rfl, Nat.le_refl _, rfl, fun _ => ⟨rfl, rfl⟩⟩
theorem key_of {S : Snap} {μ : List Mu} {a b : Int} {v : Value} (k2 : V S μ (.agg [.i64 a, .i64 b]) v) : v = pk a b := by
 simp only [V] at k2
 obtain ⟨⟨l⟩, k3, k4⟩ := k2
 match l, k4 with
 | [u, v], k4 => simp only [VL, V] at k4; obtain ⟨rfl, rfl, _⟩ := k4; exact k3
 | [], k4 => simp only [VL] at k4
 | [_], k4 => simp only [VL] at k4; exact k4.2.elim
 | _ :: _ :: _ :: _, k4 => simp only [VL] at k4; exact k4.2.2.elim
theorem map_find {k : TypeId} (K : PKey P k) {es : List MapEntry} {clk : Nat} {es' : List MapEntry} {mv : Array Value} (h : MapOk es clk es' mv) {L : List (Int × Int × F)} (hL : ME L es') (a b : Int) (w : World) :
  (mget L a b = none ∧ (∀ e ∈ es, e.key ≠ pk a b) ∧ (Instr.findAsking k (pk a b) es 0).run P w = .ok none w) ∨
  ∃ x j e, mget L a b = some x ∧ es[j]? = some e ∧ e ∈ es ∧ e.key = pk a b ∧ (Instr.findAsking k (pk a b) es 0).run P w = .ok (some (j, e.val)) w ∧ ∃ bb, e.val = .float .f32 bb ∧ FR .f32 bb x := by
 have hall : AllPk es := fun e he => hL.pk e (h.pm.mem_iff.2 he)
 rcases mget_cases a b hL with ⟨h1, h2⟩ | ⟨x, e, h1, h2, h3, h4⟩
 ·rcases run_asking K a b w 0 hall with ⟨k1, k2⟩ | ⟨j, e, k1, k2, _⟩
  ·exact .inl ⟨h1, k1, k2⟩
  ·exact absurd k2 (h2 e (h.pm.mem_iff.2 (List.mem_of_getElem? k1)))
 ·rcases run_asking K a b w 0 hall with ⟨k1, _⟩ | ⟨j, e', k1, k2, k3⟩
  ·exact absurd h3 (k1 e (h.pm.mem_iff.1 h2))
  ·have he' := List.mem_of_getElem? k1
   have : e' = e := key_unique h.kd he' (h.pm.mem_iff.1 h2) (by rw [k2, h3])
   subst this
   exact .inr ⟨x, j, e', h1, k1, he', k2, by rw [k3, Nat.zero_add], h4⟩
theorem TOp.mgetok {t k e : TypeId} {x y : Operand} {p ver : Nat} {L : List (Int × Int × F)} {mk : List AV} {a b : Int} {r : F} {s : Bool} (ht : ∀ w, (underlying t).run P w = .ok (.map k e) w) (K : PKey P k) (hz : ∀ w, (zeroValue e).run P w = .ok (.float .f32 0) w) (hz' : ∀ S μ, V S μ (.f32 (some 0)) (.float .f32 0))
  (ho : o.op = .lookup t x y true) (hx : ev τ x = .mref p ver) (hy : ev τ y = .agg [.i64 a, .i64 b]) (hp : Γ[p]? = some ⟨ver, some (mpx mk L)⟩) (hr : (mget L a b).getD (some 0) = r) (hs : (mget L a b).isSome = s) : TOp P o τ Γ (.tup [.f32 r, .b s]) [] := by
 intro S μ Γ2 ac w hL _ hw h next Q hn
 have k1 := opnd h (x := x) (by simp [ho, Op.operands]) hx
 have k2 := opnd h (x := y) (by simp [ho, Op.operands]) hy
 have hk := key_of k2
 simp only [V] at k1
 obtain ⟨m, bk, h1, h2, h3, h4⟩ := k1
 have hp2 := hL.2 p ver _ hp
 obtain ⟨hb, hmp⟩ := h4 (hw.ver p _ m hp2 h1)
 obtain ⟨es, clk, es', mv, e1, e2, e3, _, e4⟩ := own_map hw hp2 h1 hb hmp
 unfold Oper.wp
 rcases map_find K e2 e3 a b w with ⟨q1, _, q2⟩ | ⟨v, j, en, q1, _, _, _, q2, q5⟩
 ·have : (execOp ac.eval o).run P w = .ok (.value (.tuple #[.float .f32 0, .bool false])) w := by
   simp [execOp, ho, h3, hk, Instr.lookup, ht, run_getObj e1, K.chk, run_findKey K, q2, hz]
  rw [this]
  refine hn S μ _ w (SExt.refl S) (SFresh.refl _ S) (MuStep.refl _ _ _) hw ?_ (Grow.refl w)
  rw [q1] at hr hs
  simp at hr hs
  subst hr; subst hs
  have := hz' S μ
  simp only [V] at this ⊢
  exact ⟨_, rfl, by simpa [VL, V] using this⟩
 ·have : (execOp ac.eval o).run P w = .ok (.value (.tuple #[en.val, .bool true])) w := by
   simp [execOp, ho, h3, hk, Instr.lookup, ht, run_getObj e1, K.chk, run_findKey K, q2]
  rw [this]
  refine hn S μ _ w (SExt.refl S) (SFresh.refl _ S) (MuStep.refl _ _ _) hw ?_ (Grow.refl w)
  rw [q1] at hr hs
  simp at hr hs
  subst hr; subst hs
  simp only [V]
  exact ⟨_, rfl, by simpa [VL, V] using q5⟩
theorem TOp.mget {t k e : TypeId} {x y : Operand} {p ver : Nat} {L : List (Int × Int × F)} {mk : List AV} {a b : Int} {r : F} (ht : ∀ w, (underlying t).run P w = .ok (.map k e) w) (K : PKey P k) (hz : ∀ w, (zeroValue e).run P w = .ok (.float .f32 0) w) (hz' : ∀ S μ, V S μ (.f32 (some 0)) (.float .f32 0))
  (ho : o.op = .lookup t x y false) (hx : ev τ x = .mref p ver) (hy : ev τ y = .agg [.i64 a, .i64 b]) (hp : Γ[p]? = some ⟨ver, some (mpx mk L)⟩) (hr : (mget L a b).getD (some 0) = r) : TOp P o τ Γ (.f32 r) [] := by
 intro S μ Γ2 ac w hL _ hw h next Q hn
 have k1 := opnd h (x := x) (by simp [ho, Op.operands]) hx
 have k2 := opnd h (x := y) (by simp [ho, Op.operands]) hy
 have hk := key_of k2
 simp only [V] at k1
 obtain ⟨m, bk, h1, h2, h3, h4⟩ := k1
 have hp2 := hL.2 p ver _ hp
 obtain ⟨hb, hmp⟩ := h4 (hw.ver p _ m hp2 h1)
 obtain ⟨es, clk, es', mv, e1, e2, e3, _, e4⟩ := own_map hw hp2 h1 hb hmp
 unfold Oper.wp
 rcases map_find K e2 e3 a b w with ⟨q1, _, q2⟩ | ⟨v, j, en, q1, _, _, _, q2, q5⟩
 ·have : (execOp ac.eval o).run P w = .ok (.value (.float .f32 0)) w := by
   simp [execOp, ho, h3, hk, Instr.lookup, ht, run_getObj e1, K.chk, run_findKey K, q2, hz]
  rw [this]
  refine hn S μ _ w (SExt.refl S) (SFresh.refl _ S) (MuStep.refl _ _ _) hw ?_ (Grow.refl w)
  rw [q1] at hr
  simp at hr
  subst hr
  exact hz' S μ
 ·have : (execOp ac.eval o).run P w = .ok (.value en.val) w := by
   simp [execOp, ho, h3, hk, Instr.lookup, ht, run_getObj e1, K.chk, run_findKey K, q2]
  rw [this]
  refine hn S μ _ w (SExt.refl S) (SFresh.refl _ S) (MuStep.refl _ _ _) hw ?_ (Grow.refl w)
  rw [q1] at hr
  simp at hr
  subst hr
  simpa [V] using q5
def remap (w : World) (b : Nat) (es : Array MapEntry) (clk : Nat) : World := { w with heap := w.heap.setIfInBounds b (.map es clk) }
theorem remap_at {w : World} {b : Nat} {o : Obj} (h : w.heap[b]? = some o) (es : Array MapEntry) (clk : Nat) : (remap w b es clk).heap[b]? = some (.map es clk) := by
 have := (Array.getElem?_eq_some_iff.1 h).1
 simp [remap, this]
theorem remap_ne {w : World} {b b' : Nat} (es : Array MapEntry) (clk : Nat) (h : b ≠ b') : (remap w b es clk).heap[b']? = w.heap[b']? := by
 simp [remap, Array.getElem?_setIfInBounds_ne h]
theorem WI.remap {S : Snap} {μ : List Mu} {w : World} (h : WI S μ Γ w) {p ver b : Nat} {l : List AV} {m : Mu} {L : List (Int × Int × F)} {mk : List AV} {es : Array MapEntry} {clk : Nat} {es' : List MapEntry} {mv : Array Value} (hp : Γ[p]? = some ⟨ver, some l⟩) (hm : μ[p]? = some m) (hb : m.blk = some b) (hmp : m.mp = true)
  (hbn : MapOk es.toList clk es' mv) (hl : ME L es') (hmv : VL S μ mk mv.toList) : WI S μ (Γ.set p ⟨ver, some (mpx mk L)⟩) (remap w b es clk) := by
 have hpl := lt_of_getElem? hp
 obtain ⟨c0, T0, e0, e1, e2, e3⟩ := own_any h hp hm hb
 have hSne : ∀ b' c, S b' = some c → b ≠ b' := fun b' c hs e => by subst e; rw [e3] at hs; cases hs
 refine ⟨fun b' c hs => ?_, by simp [h.len], ?_, ?_, ?_⟩
 ·rw [remap_ne _ _ (hSne b' c hs)]; exact h.snap b' c hs
 ·intro i g m1 hg hm1
  by_cases e : p = i
  ·subst e; simp [hpl] at hg; subst hg; exact h.ver p ⟨ver, some l⟩ m1 hp hm1
  ·rw [List.getElem?_set_ne e] at hg; exact h.ver i g m1 hg hm1
 ·intro i v1 l1 m1 hg hm1
  by_cases e : p = i
  ·subst e
   simp [hpl] at hg
   obtain ⟨_, rfl⟩ := hg
   rw [hm] at hm1; simp at hm1; subst hm1
   unfold OwnAt
   rw [hb]
   refine ⟨e3, (es'.map mval ++ [Value.tuple mv]).toArray, _, remap_at e0 es clk, ?_, by simpa using vp_mpx.2 ⟨hl, hmv⟩⟩
   unfold Img
   rw [hmp]
   exact .inl ⟨es, clk, es', mv, rfl, hbn, by simp⟩
  ·rw [List.getElem?_set_ne e] at hg
   have h1 := h.own i v1 l1 m1 hg hm1
   unfold OwnAt at h1 ⊢
   split at h1
   ·exact h1
   ·rename_i b1 hb1
    obtain ⟨k1, c1, T1, k2, k3⟩ := h1
    have hne : b ≠ b1 := fun eb => by
     subst eb
     exact e (h.sep p i _ _ m m1 b hp rfl hg rfl hm hm1 hb hb1)
    exact ⟨k1, c1, T1, by rw [remap_ne _ _ hne]; exact k2, k3⟩
 ·intro i i' g g' m1 m1' b1 hg hs hg' hs' hm1 hm1' hb1 hb1'
  have key : ∀ {i : Nat} {g : Ob}, (Γ.set p ⟨ver, some (mpx mk L)⟩)[i]? = some g → g.cells.isSome = true → ∃ g0, Γ[i]? = some g0 ∧ g0.cells.isSome = true := by
   intro i g hg hs
   by_cases e : p = i
   ·subst e; exact ⟨_, hp, rfl⟩
   ·rw [List.getElem?_set_ne e] at hg; exact ⟨g, hg, hs⟩
  obtain ⟨g0, k1, k2⟩ := key hg hs
  obtain ⟨g0', k1', k2'⟩ := key hg' hs'
  exact h.sep i i' g0 g0' m1 m1' b1 k1 k2 k1' k2' hm1 hm1' hb1 hb1'
theorem ME.put {L : List (Int × Int × F)} {es : List MapEntry} {a b : Int} {x : F} {v : Value} {clk : Nat} (hv : ∃ bb, v = .float .f32 bb ∧ FR .f32 bb x) : ME L es → mget L a b = none → ME (mput L a b x) (es ++ [{ key := AM.pk a b, val := v, born := clk }]) := by
 induction L generalizing es with
 | nil => intro h _; cases es with
  | nil => exact ⟨rfl, hv, trivial⟩
  | cons _ _ => exact h.elim
 | cons y L ih =>
  obtain ⟨r, c, y⟩ := y
  intro h hg
  cases es with
  | nil => simp [ME] at h
  | cons e es =>
   by_cases hk : a = r ∧ b = c
   ·simp [mget, hk] at hg
   ·simp [mget, hk] at hg
    simp only [ME] at h
    simp only [mput, hk, if_false, List.cons_append, ME]
    exact ⟨h.1, h.2.1, ih h.2.2 hg⟩
open Classical in
noncomputable def atKey (k v : Value) (e : MapEntry) : MapEntry := if e.key = k then { e with val := v } else e
theorem atKey_key (k v : Value) (e : MapEntry) : (atKey k v e).key = e.key := by unfold atKey; split <;> rfl
theorem atKey_born (k v : Value) (e : MapEntry) : (atKey k v e).born = e.born := by unfold atKey; split <;> rfl
theorem atKey_id {es : List MapEntry} {k v : Value} (h : ∀ e ∈ es, e.key ≠ k) : es.map (atKey k v) = es := by
 have : ∀ e ∈ es, atKey k v e = e := fun e he => by unfold atKey; rw [if_neg (h e he)]
 exact (List.map_congr_left this).trans (List.map_id es)
theorem ME.mod {L : List (Int × Int × F)} {es : List MapEntry} {a b : Int} {x : F} {v : Value} (hv : ∃ bb, v = .float .f32 bb ∧ FR .f32 bb x) : ME L es → es.Pairwise (fun a b => a.key ≠ b.key) → (∃ e ∈ es, e.key = AM.pk a b) → ME (mput L a b x) (es.map (atKey (AM.pk a b) v)) := by
 induction L generalizing es with
 | nil => intro h _ he; cases es with
  | nil => obtain ⟨_, he, _⟩ := he; cases he
  | cons _ _ => exact h.elim
 | cons y L ih =>
  obtain ⟨r, c, y⟩ := y
  intro h hd he
  cases es with
  | nil => simp [ME] at h
  | cons e0 es =>
   simp only [ME] at h
   rw [List.pairwise_cons] at hd
   by_cases hk : a = r ∧ b = c
   ·obtain ⟨rfl, rfl⟩ := hk
    have hrest : ∀ e ∈ es, e.key ≠ AM.pk a b := fun e he' hh => hd.1 e he' (by rw [h.1, hh])
    simp only [mput, and_self, if_true, List.map_cons, ME]
    rw [atKey_id hrest]
    refine ⟨by rw [atKey_key]; exact h.1, ?_, h.2.2⟩
    unfold atKey
    rw [if_pos h.1]
    exact hv
   ·obtain ⟨e, he1, he2⟩ := he
    have he3 : e ∈ es := by
     rcases List.mem_cons.1 he1 with rfl | he1
     ·rw [h.1] at he2; have := pk_inj he2; exact absurd ⟨this.1.symm, this.2.symm⟩ hk
     ·exact he1
    have hne : e0.key ≠ AM.pk a b := by rw [h.1]; intro hh; have := pk_inj hh; exact hk ⟨this.1.symm, this.2.symm⟩
    simp only [mput, hk, if_false, List.map_cons, ME]
    have h0 : atKey (AM.pk a b) v e0 = e0 := by unfold atKey; rw [if_neg hne]
    rw [h0]
    exact ⟨h.1, h.2.1, ih h.2.2 hd.2 ⟨e, he3, he2⟩⟩
theorem modify_atKey {es : List MapEntry} {k v : Value} {j : Nat} {e : MapEntry} (hd : es.Pairwise (fun a b => a.key ≠ b.key)) (hj : es[j]? = some e) (hk : e.key = k) (f : MapEntry → MapEntry) (hf : f e = { e with val := v }) : es.modify j f = es.map (atKey k v) := by
 apply List.ext_getElem?
 intro i
 rw [List.getElem?_modify, List.getElem?_map]
 by_cases hi : j = i
 ·subst hi
  rw [hj]
  show some (if j = j then f e else e) = some (atKey k v e)
  rw [if_pos rfl, hf]
  unfold atKey
  rw [if_pos hk]
 ·cases hx : es[i]? with
  | none => simp
  | some e2 =>
   simp only [Option.map_some, hi, if_false]
   have hne : e2.key ≠ k := by
    intro hh
    have h1 := (List.getElem?_eq_some_iff.1 hj)
    have h2 := (List.getElem?_eq_some_iff.1 hx)
    obtain ⟨l1, e1⟩ := h1
    obtain ⟨l2, e2'⟩ := h2
    rcases Nat.lt_or_gt_of_ne hi with hlt | hlt
    ·have := (List.pairwise_iff_getElem.1 hd) j i l1 l2 hlt
     rw [e1, e2'] at this; exact this (by rw [hk, hh])
    ·have := (List.pairwise_iff_getElem.1 hd) i j l2 l1 hlt
     rw [e1, e2'] at this; exact this (by rw [hk, hh])
   unfold atKey
   rw [if_neg hne]; rfl
theorem BornOk.push {es : List MapEntry} {clk : Nat} (h : BornOk es clk) (k v : Value) : BornOk (es ++ [{ key := k, val := v, born := clk }]) (clk + 1) := by
 refine ⟨List.pairwise_append.2 ⟨h.1, by simp, fun a ha b hb => ?_⟩, fun e he => ?_⟩
 ·simp at hb; subst hb; exact h.2 a ha
 ·rcases List.mem_append.1 he with he | he
  ·have := h.2 e he; omega
  ·simp at he; subst he; simp
theorem MapOk.push {es es' : List MapEntry} {clk : Nat} {mv : Array Value} (h : MapOk es clk es' mv) {k v : Value} (hk : ∀ e ∈ es, e.key ≠ k) : MapOk (es ++ [{ key := k, val := v, born := clk }]) (clk + 1) (es' ++ [{ key := k, val := v, born := clk }]) #[] where
 bn := h.bn.push k v
 kd := List.pairwise_append.2 ⟨h.kd, by simp, fun a ha b hb => by simp at hb; subst hb; exact hk a ha⟩
 pm := h.pm.append_right _
 sp s a b hh := by simp at hh
 ex es0 clk0 hh := by simp at hh
theorem BornOk.map {es : List MapEntry} {clk : Nat} (h : BornOk es clk) (k v : Value) : BornOk (es.map (atKey k v)) clk := by
 refine ⟨?_, fun e he => ?_⟩
 ·rw [List.pairwise_map]
  exact h.1.imp fun hab => by rw [atKey_born, atKey_born]; exact hab
 ·obtain ⟨e', h1, h2⟩ := List.mem_map.1 he
  rw [← h2, atKey_born]; exact h.2 e' h1
theorem MapOk.mod {es es' : List MapEntry} {clk : Nat} {mv : Array Value} (h : MapOk es clk es' mv) (k v : Value) : MapOk (es.map (atKey k v)) clk (es'.map (atKey k v)) #[] where
 bn := h.bn.map k v
 kd := by rw [List.pairwise_map]; exact h.kd.imp fun hab => by rw [atKey_key, atKey_key]; exact hab
 pm := h.pm.map _
 sp s a b hh := by simp at hh
 ex es0 clk0 hh := by simp at hh
theorem MapOk.kd' {es es' : List MapEntry} {clk : Nat} {mv : Array Value} (h : MapOk es clk es' mv) : es'.Pairwise (fun a b => a.key ≠ b.key) := h.kd.perm h.pm.symm fun hab => Ne.symm hab
theorem MapOk.unmark {es es' : List MapEntry} {clk : Nat} {mv : Array Value} (h : MapOk es clk es' mv) : MapOk es clk es' #[] := ⟨h.bn, h.kd, h.pm, fun s a b hh => by simp at hh, fun es0 clk0 hh => by simp at hh⟩
theorem run_stays (a b : Int) (w : World) : (Instr.keyThatStays (pk a b) (pk a b)).run P w = .ok (pk a b) w := by
 have : Instr.sameBits 10000 (pk a b) (pk a b) = true := by
  rw [show (10000 : Nat) = 9998 + 1 + 1 from rfl]
  simp [pk, Instr.sameBits]
 simp [Instr.keyThatStays, this]
theorem map_wrote {N : Nat} {p ver : Nat} {l : List AV} {L : List (Int × Int × F)} {mk : List AV} {S0 S : Snap} {μ0 μ : List Mu} {w0 w : World} {ac : Act} {m : Mu} {bk : Nat} {es : Array MapEntry} {clk : Nat} {es' : List MapEntry} {mv : Array Value} (hi : Inv S0 μ0 w0 N S μ τ Γ ac w) (hp : Γ[p]? = some ⟨ver, some l⟩) (h1 : μ[p]? = some m) (hb : m.blk = some bk) (hmp : m.mp = true)
  (hok : MapOk es.toList clk es' mv) (hl : ME L es') (hmv : VL S μ mk mv.toList) : Inv S0 μ0 w0 N S μ τ (Γ.set p ⟨ver, some (mpx mk L)⟩) ac (remap w bk es clk) := by
 have hw' := hi.wi.remap hp h1 hb hmp hok hl hmv
 refine ⟨⟨hi.fr.ext, hi.fr.le, hi.fr.new, ?_, by simpa [remap] using hi.fr.size, hi.fr.os, hi.fr.tape, hi.fr.output, hi.fr.sf⟩, hw', hi.ci, hi.tsz, hi.dfr⟩
 intro b' hb' hno
 have hne : bk ≠ b' := by
  intro e
  subst e
  rcases hi.fr.new p m bk h1 hb with ⟨m0, q1, q2⟩ | q
  ·exact hno p m0 q1 q2
  ·omega
 rw [remap_ne _ _ hne]
 exact hi.fr.keep b' hb' hno
theorem ROp.mput {N : Nat} {t k e : TypeId} {x y z : Operand} {p ver : Nat} {L : List (Int × Int × F)} {mk : List AV} {a b : Int} {v : F} {K : List (Nat × AV) → List Ob → Prop} (ht : ∀ w, (underlying t).run P w = .ok (.map k e) w) (hK : PKey P k) (ho : o.op = .mapUpdate t x y z) (hd : o.dst = none)
  (hx : ev τ x = .mref p ver) (hy : ev τ y = .agg [.i64 a, .i64 b]) (hz : ∀ S μ u, V S μ (ev τ z) u → V S μ (.f32 v) u) (hp : Γ[p]? = some ⟨ver, some (mpx mk L)⟩) (hQ : K τ (Γ.set p ⟨ver, some (mpc (mput L a b v))⟩)) : ROp P N o τ Γ K := by
 intro S0 μ0 w0 S μ ac w hi next Q hnx
 have hw := hi.wi
 have k1 := hi.ci.ev x
 have k2 := hi.ci.ev y
 rw [hx] at k1
 rw [hy] at k2
 have k3 := hz _ _ _ (hi.ci.ev z)
 have hk := key_of k2
 simp only [V] at k1 k3
 obtain ⟨m, bk, h1, h2, h3, h4⟩ := k1
 obtain ⟨hb, hmp⟩ := h4 (hw.ver p _ m hp h1)
 obtain ⟨es, clk, es', mv, e1, e2, e3, _, e4⟩ := own_map hw hp h1 hb hmp
 have hput : ac.put o.dst undef = ac := by rw [hd]; rfl
 obtain ⟨fs, clk', fs', hrun, hok, hl'⟩ : ∃ fs clk' fs', (execOp ac.eval o).run P w = .ok .skip (remap w bk fs clk') ∧ MapOk fs.toList clk' fs' #[] ∧ ME (AM.mput L a b v) fs' := by
  rcases map_find hK e2 e3 a b w with ⟨q1, q0, q2⟩ | ⟨u, j, en, q1, q3, q6, q4, q2, q5⟩
  ·refine ⟨es.push { key := pk a b, val := ac.eval z, born := clk }, clk + 1, es' ++ [{ key := pk a b, val := ac.eval z, born := clk }], ?_, ?_, e3.put k3 q1⟩
   ·simp [execOp, ho, h3, hk, Instr.mapUpdate, ht, run_getObj e1, hK.chk, run_findKey hK, q2, MapKept.run_setObj_map _ e1, remap]
   ·simpa using e2.push q0
  ·have hge : es[j]? = some en := by simpa using q3
   refine ⟨es.modify j fun e => { e with key := pk a b, val := ac.eval z }, clk, es'.map (atKey (pk a b) (ac.eval z)), ?_, ?_, ?_⟩
   ·simp [execOp, ho, h3, hk, Instr.mapUpdate, ht, run_getObj e1, hK.chk, run_findKey hK, q2, hge, q4, run_stays, MapKept.run_setObj_map _ e1, remap]
   ·have hm := modify_atKey (v := ac.eval z) e2.kd q3 q4 (fun e => { e with key := pk a b, val := ac.eval z }) (by rw [← q4])
    simp only [Array.toList_modify, hm]
    exact e2.mod _ _
   ·exact e3.mod k3 e2.kd' ⟨en, e2.pm.mem_iff.2 q6, q4⟩
 unfold Oper.wp
 rw [hrun, Oper.upon_skip]
 refine hnx S μ undef _ τ _ (SExt.refl S) hQ ?_
 rw [hput]
 exact map_wrote hi hp h1 hb hmp hok hl' (by simp [VL])
theorem ROps.mput {N : Nat} {all : Array Oper} {rest : List Oper} {Q : PQ} {t k e : TypeId} {x y z : Operand} {p ver : Nat} {L L' : List (Int × Int × F)} {mk : List AV} {a b : Int} {v : F} {Γ' : List Ob} (hw : wantT all τ o = some true) (ht : ∀ w, (underlying t).run P w = .ok (.map k e) w) (hK : PKey P k) (ho : o.op = .mapUpdate t x y z) (hd : o.dst = none)
  (hx : ev τ x = .mref p ver) (hy : ev τ y = .agg [.i64 a, .i64 b]) (hz : ALe (ev τ z) (.f32 v)) (hp : Γ[p]? = some ⟨ver, some (mpx mk L)⟩) (hL : AM.mput L a b v = L') (hΓ : Γ.set p ⟨ver, some (mpc L')⟩ = Γ') (h : ROps P N all rest τ Γ' Q) : ROps P N all (o :: rest) τ Γ Q :=
 ROps.op hw (ROp.mput ht hK ho hd hx hy hz hp (by subst hL; subst hΓ; exact h))
open Classical in
theorem ME.del {a b : Int} : ∀ {L : List (Int × Int × F)} {es : List MapEntry}, ME L es → ME (mdel L a b) (es.filter fun e => !decide (e.key = AM.pk a b))
 | [], [], _ => by simp [mdel, ME]
 | [], _ :: _, h => h.elim
 | _ :: _, [], h => by simp [ME] at h
 | (r, c, x) :: L, e :: es, h => by
  simp only [ME] at h
  have ih := ME.del (a := a) (b := b) h.2.2
  by_cases hk : r = a ∧ c = b
  ·have hkey : e.key = AM.pk a b := by rw [h.1, hk.1, hk.2]
   have h1 : mdel ((r, c, x) :: L) a b = mdel L a b := by simp [mdel, hk]
   rw [h1, List.filter_cons_of_neg (by simp [hkey])]
   exact ih
  ·have hkey : e.key ≠ AM.pk a b := by rw [h.1]; intro hh; exact hk (pk_inj hh)
   have h1 : mdel ((r, c, x) :: L) a b = (r, c, x) :: mdel L a b := by
    simp only [mdel, List.filter_cons]
    rw [if_pos]
    simp only [Bool.not_eq_true', Bool.and_eq_false_iff, decide_eq_false_iff_not]
    by_cases h2 : r = a
    ·exact .inr fun h3 => hk ⟨h2, h3⟩
    ·exact .inl h2
   rw [h1, List.filter_cons_of_pos (by simp [hkey])]
   simp only [ME]
   exact ⟨h.1, h.2.1, ih⟩
open Classical in
theorem erase_filter {es : List MapEntry} {k : Value} {j : Nat} {e : MapEntry} (hd : es.Pairwise (fun a b => a.key ≠ b.key)) (hj : es[j]? = some e) (hk : e.key = k) : es.eraseIdx j = es.filter fun e => !decide (e.key = k) := by
 induction es generalizing j with
 | nil => simp at hj
 | cons x es ih =>
  rw [List.pairwise_cons] at hd
  cases j with
  | zero =>
   simp at hj; subst hj
   rw [List.eraseIdx_cons_zero, List.filter_cons_of_neg (by simp [hk])]
   symm
   rw [List.filter_eq_self]
   intro a ha
   simp only [Bool.not_eq_true', decide_eq_false_iff_not]
   intro hh
   exact hd.1 a ha (by rw [hk, hh])
  | succ j =>
   have hj' : es[j]? = some e := by simpa using hj
   have hx : x.key ≠ k := by
    intro hh
    exact hd.1 e (List.mem_of_getElem? hj') (by rw [hh, hk])
   rw [List.eraseIdx_cons_succ, List.filter_cons_of_pos (by simp [hx]), ih hd.2 hj']
theorem MapOk.filter {es es' : List MapEntry} {clk : Nat} {mv : Array Value} (h : MapOk es clk es' mv) (p : MapEntry → Bool) : MapOk (es.filter p) clk (es'.filter p) #[] where
 bn := ⟨h.bn.1.filter _, fun e he => h.bn.2 e (List.mem_filter.1 he).1⟩
 kd := h.kd.filter _
 pm := h.pm.filter _
 sp s a b hh := by simp at hh
 ex es0 clk0 hh := by simp at hh
theorem ROp.mdel {N : Nat} {t tk k e : TypeId} {x y : Operand} {p ver : Nat} {L : List (Int × Int × F)} {mk : List AV} {a b : Int} {K : List (Nat × AV) → List Ob → Prop} (ht : ∀ w, (underlying t).run P w = .ok (.map k e) w) (hK : PKey P k) (ho : o.op = .call { callee := .builtin .delete, args := #[x, y], argTypes := #[t, tk] }) (hd : o.dst = none)
  (hx : ev τ x = .mref p ver) (hy : ev τ y = .agg [.i64 a, .i64 b]) (hp : Γ[p]? = some ⟨ver, some (mpx mk L)⟩) (hQ : K τ (Γ.set p ⟨ver, some (mpc (AM.mdel L a b))⟩)) : ROp P N o τ Γ K := by
 classical
 intro S0 μ0 w0 S μ ac w hi next Q hnx
 have hw := hi.wi
 have k1 := hi.ci.ev x
 have k2 := hi.ci.ev y
 rw [hx] at k1
 rw [hy] at k2
 have hk := key_of k2
 simp only [V] at k1
 obtain ⟨m, bk, h1, h2, h3, h4⟩ := k1
 obtain ⟨hb, hmp⟩ := h4 (hw.ver p _ m hp h1)
 obtain ⟨es, clk, es', mv, e1, e2, e3, _, e4⟩ := own_map hw hp h1 hb hmp
 obtain ⟨fs, fs', hrun, hok, hl'⟩ : ∃ fs fs', (execOp ac.eval o).run P w = .ok (.value (.tuple #[])) (remap w bk fs clk) ∧ MapOk fs.toList clk fs' #[] ∧ ME (AM.mdel L a b) fs' := by
  rcases map_find hK e2 e3 a b w with ⟨q1, q0, q2⟩ | ⟨u, j, en, q1, q3, q6, q4, q2, q5⟩
  ·refine ⟨es, es', ?_, e2.unmark, ?_⟩
   ·simp [execOp, ho, resolve, invoke, builtin, Builtin.delete_, h3, hk, ht, run_getObj e1, hK.chk, run_findKey hK, q2, MapKept.run_setObj_map _ e1, remap]
   ·have := e3.del (a := a) (b := b)
    rwa [List.filter_eq_self.2 (fun e he => by simp [q0 e (e2.pm.mem_iff.1 he)])] at this
  ·refine ⟨es.eraseIdxIfInBounds j, es'.filter (fun e => !decide (e.key = AM.pk a b)), ?_, ?_, e3.del⟩
   ·simp [execOp, ho, resolve, invoke, builtin, Builtin.delete_, h3, hk, ht, run_getObj e1, hK.chk, run_findKey hK, q2, MapKept.run_setObj_map _ e1, remap]
   ·have hlt : j < es.size := by
     have := (List.getElem?_eq_some_iff.1 q3).1
     simpa using this
    have : (es.eraseIdxIfInBounds j).toList = es.toList.eraseIdx j := by
     unfold Array.eraseIdxIfInBounds
     rw [dif_pos hlt, Array.toList_eraseIdx]
    rw [this, erase_filter e2.kd q3 q4]
    exact e2.filter _
 unfold Oper.wp
 rw [hrun]
 have hI := map_wrote (mk := []) hi hp h1 hb hmp hok hl' (by simp [VL])
 have hput : ac.put o.dst (.tuple #[]) = ac := by rw [hd]; rfl
 refine hnx S μ _ _ _ _ (SExt.refl S) hQ ?_
 rw [hput]
 exact hI
theorem ROps.mdel {N : Nat} {all : Array Oper} {rest : List Oper} {Q : PQ} {t tk k e : TypeId} {x y : Operand} {p ver : Nat} {L L' : List (Int × Int × F)} {mk : List AV} {a b : Int} {Γ' : List Ob} (hw : wantT all τ o = some true) (ht : ∀ w, (underlying t).run P w = .ok (.map k e) w) (hK : PKey P k) (ho : o.op = .call { callee := .builtin .delete, args := #[x, y], argTypes := #[t, tk] }) (hd : o.dst = none)
  (hx : ev τ x = .mref p ver) (hy : ev τ y = .agg [.i64 a, .i64 b]) (hp : Γ[p]? = some ⟨ver, some (mpx mk L)⟩) (hL : AM.mdel L a b = L') (hΓ : Γ.set p ⟨ver, some (mpc L')⟩ = Γ') (h : ROps P N all rest τ Γ' Q) : ROps P N all (o :: rest) τ Γ Q :=
 ROps.op hw (ROp.mdel ht hK ho hd hx hy hp (by subst hL; subst hΓ; exact h))
theorem lt_mpc (k : Nat) (L : List (Int × Int × F)) : AV.lts k (mpc L) = true := by
 simp only [AV.lts_eq_all, mpc, mpx, List.all_append, List.all_map, Bool.and_eq_true, List.all_eq_true]
 exact ⟨fun e _ => rfl, by simp [AV.lt, AV.lts]⟩
theorem noss_mpc (L : List (Int × Int × F)) : AV.noss (mpc L) = true := by
 unfold mpc mpx
 induction L with
 | nil => rfl
 | cons a L ih => simp only [List.map_cons, List.cons_append, AV.noss, ih, Bool.and_true]; rfl
theorem rens_mpc {σ : Nat → Nat × Nat} {L : List (Int × Int × F)} : AV.rens σ (mpc L) = mpc L := AV.rens_of_lt0 σ _ (lt_mpc 0 L)
theorem SelL.map {sel0 sel : List (Nat × Nat)} {p s v : Nat} {L : List (Int × Int × F)} {Γ' : List Ob} (hp : Γ[p]? = some ⟨v + s, some (mpc L)⟩) (h : SelL Γ sel0 sel Γ') : SelL Γ sel0 ((p, s) :: sel) (⟨v, some (mpc L)⟩ :: Γ') :=
 ⟨⟨hp.trans (by rw [rens_mpc]), lt_mpc _ L⟩, h⟩
theorem SelL.map0 {sel0 sel : List (Nat × Nat)} {p s : Nat} {L : List (Int × Int × F)} {Γ' : List Ob} (hp : Γ[p]? = some ⟨s, some (mpc L)⟩) (h : SelL Γ sel0 sel Γ') : SelL Γ sel0 ((p, s) :: sel) (⟨0, some (mpc L)⟩ :: Γ') :=
 SelL.map (by rw [Nat.zero_add]; exact hp) h
end
end Go.AM

namespace Go.AM
section
variable {P : Program} {o : Oper} {τ : List (Nat × AV)} {Γ : List Ob} {N : Nat} {Q : PQ}
theorem flat_len {α : Type} {f : α → List AV} {k : Nat} (hk : ∀ x, (f x).length = k + 1) : ∀ l : List α, (l.flatMap f).length = l.length * (k + 1)
 | [] => by simp
 | a :: l => by rw [List.flatMap_cons, List.length_append, hk, flat_len hk l, List.length_cons, Nat.add_mul]; omega
theorem ones_flat {α : Type} {f : α → List AV} (hf : ∀ x, (f x).all AV.one = true) : ∀ l : List α, (l.flatMap f).all AV.one = true
 | [] => rfl
 | a :: l => by rw [List.flatMap_cons, List.all_append, hf, ones_flat hf l]; rfl
theorem Bor.ownW {α : Type} {f : α → List AV} (hf : ∀ x, AV.lts 0 (f x) = true) {p ver k n : Nat} {l : List α} (hp : Γ[p]? = some ⟨ver, some (l.flatMap f)⟩) (hn : l.length = n) : Bor Γ (.oref p ver k n) (.sl l.length (l.flatMap f)) := by
 subst hn
 exact Bor.oref hp (Bors.pure (lts_flat hf l)).p rfl
def ReadW (Γ : List Ob) (a : AV) (k m : Nat) (ys : List AV) : Prop :=
 ys.length = m * (k + 1) ∧ ∀ (S : Snap) (μ : List Mu) (w : World) (v : Value), WI S μ Γ w → V S μ a v →
  ∃ ad cap, v = .slice ad m cap ∧ (m = 0 ∨ ∃ b off us, ad = some ⟨b, off, none⟩ ∧ VL S μ ys us ∧ ∀ j u, us[j]? = some u → w.cell? ⟨b, off + j, none⟩ = some u)
theorem ReadW.own {p ver n k : Nat} {l : List AV} (hp : Γ[p]? = some ⟨ver, some l⟩) (hn : l.length = n * (k + 1)) : ReadW Γ (.oref p ver k n) k n l := by
 refine ⟨hn, fun S μ w v hw hv => ?_⟩
 simp only [V] at hv
 obtain ⟨m, a, cap, h1, h2, h3, h4⟩ := hv
 have h5 := h4 (hw.ver p _ m hp h1)
 refine ⟨a, cap, h3, ?_⟩
 cases hb : m.blk with
 | none => rw [hb] at h5; exact .inl h5.2.2
 | some b =>
  rw [hb] at h5
  obtain ⟨rfl, h6, h7, hmp⟩ := h5
  obtain ⟨cs, T, e1, e2, e3, e4⟩ := own_cells hw hp h1 hb hmp
  refine .inr ⟨b, 0, cs.toList.take l.length, rfl, e3.vl_take, fun j u hj => ?_⟩
  have hlt := lt_of_getElem? hj
  simp only [List.length_take] at hlt
  rw [List.getElem?_take, if_pos (by omega)] at hj
  simp only [World.cell?, e1, Nat.zero_add]
  simpa using hj
theorem ROp.appendW {N : Nat} {t e : TypeId} {s x : Operand} {I : TypeInfo} {z : Value} {bytes : Nat} {p ver n m k : Nat} {l ys : List AV} {K : List (Nat × AV) → List Ob → Prop}
  (ht : P.underlying t = some (.slice e)) (hI : P.info? e = some I) (hz : I.zero = some z) (hsz : I.size = k + 1) (hby : I.bytes = bytes) (hzs : z.cells.size = k + 1)
  (ho : o.op = .call { callee := .builtin .append, args := #[s, x], argTypes := #[t, t] }) (hd : dstLt N o = true) (hs : ev τ s = .oref p ver k n) (hp : Γ[p]? = some ⟨ver, some l⟩) (hl : l.length = n * (k + 1)) (hx : ReadW Γ (ev τ x) k m ys) (hone : ys.all AV.one = true)
  (hb : (n + m) * bytes ≤ 140737488355328) (hmx : n + m ≤ 4611686018427387904) (hK : K (put τ o.dst (.oref p (ver + 1) k (n + m))) (Γ.set p ⟨ver + 1, some (l ++ ys)⟩)) : ROp P N o τ Γ K := by
 intro S0 μ0 w0 S μ a w hi next Q hnx
 have hw := hi.wi
 have k1 := hi.ci.ev s
 rw [hs] at k1
 simp only [V] at k1
 obtain ⟨mm, ad, cap, h1, h2, h3, h4⟩ := k1
 have hver := hw.ver p _ mm hp h1
 simp only at hver
 have h5 := h4 hver
 obtain ⟨adx, capx, h6, h7⟩ := hx.2 S μ w _ hw (hi.ci.ev x)
 have hym := hx.1
 have hml := lt_of_getElem? h1
 have hpl := lt_of_getElem? hp
 have hmax : maxLen = 9223372036854775807 := rfl
 -- the end, once for all: the new world is the old one with new blocks, the object lies in one of them
 have fin : ∀ (v' : Value) (w' : World) (olds us : List Value), (execOp a.eval o).run P w = .ok (.value v') w' → VL S μ l olds → VL S μ ys us → 0 < n + m → w'.ownsRow w.heap.size e (k + 1) v' (n + m) (olds ++ us) → w.grownBy w' none → o.wp P a w next Q := by
  intro v' w' olds us hrun hol hus hpos hrow hgr
  unfold Oper.wp
  rw [hrun]
  obtain ⟨_, hrow⟩ := hrow
  rcases hrow with ⟨_, h0⟩ | ⟨g, cap', cur, rfl, hg1, hg2, hg3, hg4, hg5, hg6⟩
  ·omega
  ·have hG : Grow w w' := ⟨hgr.size, fun b hb => hgr.block b hb (fun e => by cases e), hgr.os, hgr.tape, hgr.output⟩
   have hvp : VP S μ (l ++ ys) cur.toList := by
    have e1 : cur.toList = (olds ++ us) ++ cur.toList.drop ((n + m) * (k + 1)) := by rw [← hg6, List.take_append_drop]
    rw [e1, List.append_assoc]
    refine VP.app hol ?_
    have := VP.app hus (l' := []) (vs' := cur.toList.drop ((n + m) * (k + 1))) (by simp only [VP])
    simpa using this
   obtain ⟨q1, q2⟩ := hw.fill_new hG (es := 0) (l := l ++ ys) (blk := some g) (cs := cur) (T := e) hp (fun b hb => by simp at hb; subst hb; exact ⟨hg1, hg2⟩) (by simp) hvp
   refine hnx S _ _ w' _ _ (SExt.refl S) hK ⟨hi.fr.grow (SExt.refl S) (SFresh.refl _ S) q2 hG, q1, ?_, by rw [put_size]; exact hi.tsz, by rw [put_defers]; exact hi.dfr⟩
   refine (hi.ci.mono (SExt.refl S) q2.le).put (fun d hd' => by rw [hi.tsz.1]; exact dstLt_spec hd d hd') ?_
   simp only [V]
   refine ⟨_, _, _, by simp [hml]; rfl, Nat.le_refl _, rfl, fun _ => ?_⟩
   exact ⟨rfl, hg3, Nat.le_of_eq hg5.symm, rfl⟩
 have hargs : (execOp a.eval o).run P w = ((Builtin.append_ #[t, t] o.type #[.slice ad n cap, .slice adx m capx]).run P w).andThen fun v w' => .ok (.value v) w' := by
  simp [execOp, ho, resolve, invoke, builtin, h3, h6]
 have hu : ∀ w, (underlying t).run P w = .ok (.slice e) w := run_underlying ht
 by_cases hm0 : m = 0
 ·-- nothing is appended
  subst hm0
  have hys : ys = [] := List.eq_nil_of_length_eq_zero (by rw [hym, Nat.zero_mul])
  subst hys
  have hle : n ≤ cap := by
   cases hb' : mm.blk with
   | none => rw [hb'] at h5; simp only at h5; omega
   | some b => rw [hb'] at h5; exact h5.2.1
  have hfc : (Builtin.firstCells (k + 1) 0 (.slice adx 0 capx)).run P w = .ok #[] w := by
   cases adx <;> simp [Builtin.firstCells, loadCells, loadCellsFrom]
  have hrun : (execOp a.eval o).run P w = .ok (.value (.slice ad n cap)) w := by
   rw [hargs]
   cases ad <;> simp [Builtin.append_, hu, sizeOf, typeInfo, hI, hsz, Builtin.lenOf, hle, hfc, storeCells]
  obtain ⟨q1, q2⟩ := hw.bump hp h1
  unfold Oper.wp
  rw [hrun]
  rw [List.append_nil] at hK
  refine hnx S _ _ w _ _ (SExt.refl S) hK ⟨⟨hi.fr.ext, ?_, ?_, hi.fr.keep, hi.fr.size, hi.fr.os, hi.fr.tape, hi.fr.output, hi.fr.sf⟩, q1, ?_, by rw [put_size]; exact hi.tsz, by rw [put_defers]; exact hi.dfr⟩
  ·exact hi.fr.le.trans (B' := w0.heap.size) (MuLe.set h1 (by simp only; omega) fun b hb => .inl hb) (Nat.le_refl _)
  ·intro i m1 b hm1 hb1
   by_cases e : p = i
   ·subst e; simp [hml] at hm1; subst hm1; exact hi.fr.new p mm b h1 hb1
   ·rw [List.getElem?_set_ne e] at hm1; exact hi.fr.new i m1 b hm1 hb1
  ·refine (hi.ci.mono (SExt.refl S) q2).put (fun d hd' => by rw [hi.tsz.1]; exact dstLt_spec hd d hd') ?_
   simp only [V]
   exact ⟨{ mm with ver := ver + 1 }, ad, cap, by simp [hml], Nat.le_refl _, rfl, fun _ => h5⟩
 ·rcases h7 with h7 | ⟨bx, offx, us, rfl, h8, h9⟩
  ·exact absurd h7 hm0
  have hul : us.length = m * (k + 1) := by rw [h8.length, hym]
  have h9' : ∀ j u, us[j]? = some u → w.cell? (Addr.add ⟨bx, offx, none⟩ j) = some u := fun j u hj => by rw [Addr.add_mk]; exact h9 j u hj
  have hones := VL.ones ys us h8 hone
  cases hb' : mm.blk with
  | none =>
   rw [hb'] at h5
   simp only at h5
   obtain ⟨hc0, _, hn0⟩ := h5
   have hl0 : l = [] := List.eq_nil_of_length_eq_zero (by rw [hl, hn0, Nat.zero_mul])
   subst hl0
   cases ad with
   | some b0 =>
    obtain ⟨v', w', r1, r2, r3⟩ := run_append_arg_grows (P := P) w t o.type e I z (k + 1) bytes ht hI hz hsz hby hzs (by omega) b0 n cap [] (by rw [hn0]; simp) (by simp) ⟨bx, offx, none⟩ m capx us hul h9' (by omega) (by omega) hb
    exact fin v' w' [] us (by rw [hargs, r1]; rfl) (by simp only [VL]) h8 (by omega) (by simpa using r2) r3
   | none =>
    subst hc0; subst hn0
    obtain ⟨v', w', r1, r2, r3, _⟩ := run_append_own (P := P) w w.heap.size t o.type e I z (k + 1) bytes ht hI hz hsz hby hzs (by omega) (.slice none 0 0) 0 [] (World.ownsRow_nil w _ e (k + 1)) ⟨bx, offx, none⟩ m capx us hul h9' hones (by omega) hb (Nat.le_refl _)
    exact fin v' w' [] us (by rw [hargs, r1]; rfl) (by simp only [VL]) h8 (by omega) (by simpa using r2) r3
  | some b =>
   rw [hb'] at h5
   simp only at h5
   obtain ⟨rfl, h10, h11, hmp⟩ := h5
   obtain ⟨cs, T, e1, e2, e3, e4⟩ := own_cells hw hp h1 hb' hmp
   have hcl : l.length ≤ cs.toList.length := e3.length
   simp only [Array.length_toList] at hcl
   by_cases hroom : n + m ≤ cap
   ·-- in place
    have hspan : n * (k + 1) + m * (k + 1) ≤ cs.size := by
     have : (n + m) * (k + 1) ≤ cap * (k + 1) := Nat.mul_le_mul_right _ hroom
     rw [Nat.add_mul] at this
     omega
    have hmk : 0 < m * (k + 1) := Nat.mul_pos (by omega) (by omega)
    have hst := run_storeCells (P := P) (w := w) (b := b) (T := T) us (n * (k + 1)) 0 cs e1 (by omega) hones
    have hne : us ≠ [] := fun e => by subst e; simp at hul; omega
    rw [if_neg hne] at hst
    simp only [Nat.add_zero] at hst
    have hfc : (Builtin.firstCells (k + 1) m (.slice (some ⟨bx, offx, none⟩) m capx)).run P w = .ok us.toArray w := by
     have := run_firstCells_some (P := P) w (k + 1) m ⟨bx, offx, none⟩ m capx us hul h9'
     simpa using this
    have hrun : (execOp a.eval o).run P w = .ok (.value (.slice (some ⟨b, 0, none⟩) (n + m) cap)) (recell w b (AM.overlay cs.toList (n * (k + 1)) us).toArray T) := by
     rw [hargs]
     simp [Builtin.append_, hu, sizeOf, typeInfo, hI, hsz, Builtin.lenOf, hroom, hfc, Addr.add_mk, hst]
    have hsz' : (AM.overlay cs.toList (n * (k + 1)) us).toArray.size = cs.size := by
     simp only [List.size_toArray, AM.overlay, List.length_append, List.length_take, List.length_drop, Array.length_toList]
     omega
    have hvp : VP S μ (l ++ ys) (AM.overlay cs.toList (n * (k + 1)) us) := by
     unfold AM.overlay
     rw [List.append_assoc]
     refine VP.app ?_ ?_
     ·rw [← hl]; exact e3.vl_take
     ·have := VP.app h8 (l' := []) (vs' := cs.toList.drop (n * (k + 1) + us.length)) (by simp only [VP])
      simpa using this
    have hw1 := hw.put hp h1 hb' e1 hsz' (by simpa using hvp)
    obtain ⟨q1, q2⟩ := hw1.bump (p := p) (ver := ver) (l := l ++ ys) (m := mm) (by simp [hpl]) h1
    rw [List.set_set] at q1
    unfold Oper.wp
    rw [hrun]
    refine hnx S _ _ _ _ _ (SExt.refl S) hK ⟨⟨hi.fr.ext, ?_, ?_, ?_, by simpa [recell] using hi.fr.size, hi.fr.os, hi.fr.tape, hi.fr.output, hi.fr.sf⟩, q1, ?_, by rw [put_size]; exact hi.tsz, by rw [put_defers]; exact hi.dfr⟩
    ·exact hi.fr.le.trans (B' := w0.heap.size) (MuLe.set h1 (by simp only; omega) fun b hb => .inl hb) (Nat.le_refl _)
    ·intro i m1 b1 hm1 hb1
     by_cases e : p = i
     ·subst e; simp [hml] at hm1; subst hm1; exact hi.fr.new p mm b1 h1 hb1
     ·rw [List.getElem?_set_ne e] at hm1; exact hi.fr.new i m1 b1 hm1 hb1
    ·intro b1 hb1 hno
     have hne : b ≠ b1 := by
      intro e
      subst e
      rcases hi.fr.new p mm b h1 hb' with ⟨m0, q1, q2⟩ | q
      ·exact hno p m0 q1 q2
      ·omega
     rw [recell_ne hne]
     exact hi.fr.keep b1 hb1 hno
    ·refine (hi.ci.mono (SExt.refl S) q2).put (fun d hd' => by rw [hi.tsz.1]; exact dstLt_spec hd d hd') ?_
     simp only [V]
     refine ⟨_, _, _, by simp [hml]; rfl, Nat.le_refl _, rfl, fun _ => ?_⟩
     simp only [hb']
     exact ⟨trivial, hroom, h11, hmp⟩
   ·obtain ⟨v', w', r1, r2, r3⟩ := run_append_arg_grows (P := P) w t o.type e I z (k + 1) bytes ht hI hz hsz hby hzs (by omega) ⟨b, 0, none⟩ n cap (cs.toList.take l.length) (by simp; omega) (fun j u hj => by
      have hlt := lt_of_getElem? hj
      simp only [List.length_take] at hlt
      rw [List.getElem?_take, if_pos (by omega)] at hj
      rw [Addr.add_mk]
      simp only [World.cell?, e1, Nat.zero_add]
      simpa using hj) ⟨bx, offx, none⟩ m capx us hul h9' (by omega) (by omega) hb
    exact fin v' w' _ us (by rw [hargs, r1]; rfl) e3.vl_take h8 (by omega) r2 r3
theorem ROps.appW {α : Type} {f : α → List AV} {xs ys : List α} {k : Nat} (hk : ∀ x, (f x).length = k + 1) {all : Array Oper} {rest : List Oper} {t e : TypeId} {s x : Operand} {I : TypeInfo} {z : Value} {bytes : Nat} {p q ver verq n m d : Nat} {Γ' : List Ob} (hw : wantT all τ o = some true)
  (ht : P.underlying t = some (.slice e)) (hI : P.info? e = some I) (hz : I.zero = some z) (hsz : I.size = k + 1) (hby : I.bytes = bytes) (hzs : z.cells.size = k + 1)
  (ho : o.op = .call { callee := .builtin .append, args := #[s, x], argTypes := #[t, t] }) (hd : o.dst = some d) (hN : Nat.blt d (N / 2) = true) (hs : ev τ s = .oref p ver k n) (hp : Γ[p]? = some ⟨ver, some (xs.flatMap f)⟩) (hl : xs.length = n) (hx : ev τ x = .oref q verq k m) (hq : Γ[q]? = some ⟨verq, some (ys.flatMap f)⟩) (hm : ys.length = m) (hone : ∀ x, (f x).all AV.one = true)
  (hb : (n + m) * bytes ≤ 140737488355328) (hmx : n + m ≤ 4611686018427387904) (hΓ : Γ.set p ⟨ver + 1, some ((xs ++ ys).flatMap f)⟩ = Γ') (h : ROps P N all rest ((d, .oref p (ver + 1) k (n + m)) :: τ) Γ' Q) : ROps P N all (o :: rest) τ Γ Q := by
 refine ROps.op hw (ROp.appendW ht hI hz hsz hby hzs ho (by simp only [dstLt, hd]; simpa using hN) hs hp (by rw [flat_len hk, hl]) (by rw [hx]; exact ReadW.own hq (by rw [flat_len hk, hm])) (ones_flat hone ys) hb hmx ?_)
 rw [hd, ← List.flatMap_append, hΓ]; exact h
theorem range_mod {α : Type} [Inhabited α] {l : List α} (hl : 0 < l.length) : ∀ n : Nat, ((List.range (n * l.length)).map fun i => l[i % l.length]!) = (List.replicate n l).flatten
 | 0 => by simp
 | n + 1 => by
  rw [Nat.add_mul, Nat.one_mul, List.range_add, List.map_append, range_mod hl n, List.replicate_succ', List.flatten_append]
  congr 1
  simp only [List.flatten_cons, List.flatten_nil, List.append_nil, List.map_map]
  apply List.ext_getElem (by simp)
  intro i h1 h2
  simp only [List.length_map, List.length_range] at h1
  simp [Nat.mod_eq_of_lt h1, h1]
theorem fillA_len {place : Nat → Option (Nat × Nat)} : ∀ (qs : List (Nat × List AV)) (c r : List AV), fillA place c qs = some r → r.length = c.length
 | [], c, r, h => by simp only [fillA, Option.some.injEq] at h; rw [h]
 | (i, l) :: qs, c, r, h => by
  simp only [fillA] at h
  split at h
  ·cases h
  ·split at h
   ·rename_i off size _ hh
    have := fillA_len qs _ r h
    rw [this]
    simp only [AM.overlay, List.length_append, List.length_take, List.length_drop]
    omega
   ·cases h
theorem VL_flat {S : Snap} {μ : List Mu} {l : List AV} {vs : List Value} (h : VL S μ l vs) : ∀ n : Nat, VL S μ (List.replicate n l).flatten (List.replicate n vs).flatten
 | 0 => by simp only [List.replicate_zero, List.flatten_nil, VL]
 | n + 1 => by rw [List.replicate_succ, List.replicate_succ, List.flatten_cons, List.flatten_cons]; exact VL.app h (VL_flat h n)
theorem rep_flat_len {α : Type} (l : List α) : ∀ n : Nat, (List.replicate n l).flatten.length = n * l.length
 | 0 => by simp
 | n + 1 => by rw [List.replicate_succ, List.flatten_cons, List.length_append, rep_flat_len l n, Nat.add_mul]; omega
theorem TOp.buildSlice_w {t e : TypeId} {len k : Nat} {parts : Array (Nat × Operand)} {z : Value} {zc : List AV} {r : List AV} {qs : List (Nat × List AV)} (p : Nat) {g : Ob} (hp : Γ[p]? = some g) (ht : ∀ w, (underlying t).run P w = .ok (.slice e) w) (hsz : ∀ w, (sizeOf e).run P w = .ok (k + 1) w)
  (hz : ∀ w, (zeroValue e).run P w = .ok z w) (hzs : z.cells.size = k + 1) (hza : ∀ S μ, VL S μ zc z.cells.toList) (ho : o.op = .buildSlice t len parts) (hmax : Nat.ble (len * (k + 1)) 16777216 = true) (hps : PartsOk τ parts.toList qs) (hr : fillA (fun i => some (i * (k + 1), k + 1)) (List.replicate len zc).flatten qs = some r) :
  TOp P o τ Γ (.oref p (g.ver + 1) k len) [(p, r)] := by
 intro S μ Γ2 a w _ hd hw hx next Q hnx
 have hzl := VL_flat (hza S μ) len
 have hcs : ((Array.range (len * (k + 1))).map fun i => z.cells[i % z.cells.size]!) = (List.replicate len z.cells.toList).flatten.toArray := by
  apply Array.ext'
  rw [Array.toList_map, Array.toList_range]
  have := range_mod (l := z.cells.toList) (by rw [Array.length_toList, hzs]; omega) len
  rw [Array.length_toList, hzs] at this
  rw [hzs, List.toList_toArray, ← this]
  apply List.map_congr_left
  intro i _
  cases h : z.cells[i % (k + 1)]? <;> simp [getElem!_def, h]
 obtain ⟨cs', h1, h2⟩ := fill_ok (S := S) (μ := μ) (a := a) (fun i => some (i * (k + 1), k + 1)) parts.toList qs (List.replicate len zc).flatten (List.replicate len z.cells.toList).flatten.toArray r hps (fun p hp => hx p.2 (by simp [ho, Op.operands]; exact ⟨p.1, by simpa using hp⟩)) (by simpa using hzl) hr
 have hrun : (execOp a.eval o).run P w = .ok (.value (.slice (some ⟨w.heap.size, 0, none⟩) len len)) (more w cs' e) := by
  have c1 : ¬ (len * (k + 1) > 16777216) := by have := Nat.le_of_ble_eq_true hmax; omega
  by_cases hn0 : len = 0
  ·subst hn0
   simp only [List.replicate_zero, List.flatten_nil] at h1
   simp [execOp, ho, Instr.buildSlice, ht, hsz, newRow, more]
   try simp at h1
   rw [show Array.range 0 = #[] from by apply Array.ext'; simp]
   simp [h1]
  ·have hne : ¬ (len * (k + 1) = 0) := by
    intro h
    rcases Nat.mul_eq_zero.1 h with h | h <;> omega
   simp [execOp, ho, Instr.buildSlice, ht, hsz, newRow, more, c1, hz]
   rw [hcs]
   try simp at h1
   simp [h1]
   exact fun h => absurd h hne
 unfold Oper.wp
 rw [hrun]
 have hp2 : Γ2[p]? = some g := (hd (p, r) (by simp)).trans hp
 obtain ⟨k1, k2⟩ := hw.fill_new (more_grow w cs' e) (es := 0) (l := r) (blk := some w.heap.size) (cs := cs') hp2 (fun b hb => by simp at hb; subst hb; exact ⟨Nat.le_refl _, more_new w _ e⟩) (by simp) h2.vp
 refine hnx S _ _ _ (SExt.refl S) (SFresh.refl _ S) k2 (by rw [fillOb_one hp2]; exact k1) ?_ (more_grow w _ e)
 have hml : p < μ.length := by rw [hw.len]; exact lt_of_getElem? hp2
 have hzcl : zc.length = k + 1 := by rw [← hzs, ← Array.length_toList]; exact ((hza S μ).length).symm
 have hrl : r.length = len * (k + 1) := by
  rw [fillA_len qs _ r hr, rep_flat_len, hzcl]
 have hcl : cs'.size = len * (k + 1) := by rw [← Array.length_toList, ← hrl]; exact h2.length
 simp only [V]
 refine ⟨_, _, _, by simp [hml]; rfl, Nat.le_refl _, rfl, fun _ => ?_⟩
 exact ⟨rfl, Nat.le_refl _, Nat.le_of_eq hcl.symm, rfl⟩
def enF (e : Int × Int × F) : List AV := [.i64 e.1, .i64 e.2.1, .f32 e.2.2]
theorem lts_enF (k : Nat) (e : Int × Int × F) : AV.lts k (enF e) = true := rfl
theorem rens_enF {σ : Nat → Nat × Nat} {l : List (Int × Int × F)} : AV.rens σ (l.flatMap enF) = l.flatMap enF := AV.rens_of_lt0 σ _ (lts_flat (fun e => lts_enF 0 e) l)
theorem zc_enF (S : Snap) (μ : List Mu) : VL S μ [.i64 0, .i64 0, .f32 (some 0)] (Value.agg #[.int .i64 0, .int .i64 0, .float .f32 0]).cells.toList := by
 have : FR .f32 0 (some 0) := ⟨rfl, by decide, rfl⟩
 show VL S μ _ [.int .i64 0, .int .i64 0, .float .f32 0]
 simp only [VL, V]
 exact ⟨trivial, trivial, ⟨0, rfl, this⟩, trivial⟩
end
end Go.AM

namespace Go.AM
section
variable {P : Program} {o : Oper} {τ : List (Nat × AV)} {Γ : List Ob}
theorem encE_inj : ∀ {es fs : List MapEntry}, encE es = encE fs → es = fs := by
 intro es
 have key : ∀ {es fs : List MapEntry}, (es.map fun e => Value.tuple #[e.key, e.val, .int .i64 e.born]) = (fs.map fun e => Value.tuple #[e.key, e.val, .int .i64 e.born]) → es = fs := by
  intro es
  induction es with
  | nil => intro fs h; cases fs with
   | nil => rfl
   | cons _ _ => simp at h
  | cons e es ih =>
   intro fs h
   cases fs with
   | nil => simp at h
   | cons f fs =>
    simp only [List.map_cons, List.cons.injEq] at h
    obtain ⟨h1, h2⟩ := h
    have h3 : e = f := by
     cases e; cases f
     simp at h1
     obtain ⟨a1, a2, a3⟩ := h1
     subst a1; subst a2
     simp only [MapEntry.mk.injEq, true_and]
     omega
    rw [h3, ih h2]
 intro fs h
 unfold encE at h
 simp only [Value.tuple.injEq] at h
 exact key (by simpa using congrArg Array.toList h)
theorem sb_at {w : World} {b : Nat} {o : Obj} (h : w.heap[b]? = some o) (ob : Obj) : (ChangeMaps.setBlock w b ob).heap[b]? = some ob := by
 have := (Array.getElem?_eq_some_iff.1 h).1
 simp [ChangeMaps.setBlock, this]
theorem sb_ne {w : World} {b b' : Nat} (ob : Obj) (h : b ≠ b') : (ChangeMaps.setBlock w b ob).heap[b']? = w.heap[b']? := by
 simp [ChangeMaps.setBlock, Array.getElem?_setIfInBounds_ne h]
theorem sb_self {w : World} {b : Nat} {ob : Obj} (h : w.heap[b]? = some ob) : ChangeMaps.setBlock w b ob = w := by
 unfold ChangeMaps.setBlock
 have : w.heap.setIfInBounds b ob = w.heap := by
  apply Array.ext_getElem?
  intro i
  rw [Array.getElem?_setIfInBounds]
  by_cases e : b = i
  ·subst e
   have := (Array.getElem?_eq_some_iff.1 h).1
   rw [if_pos rfl, if_pos this, h]
  ·simp [e]
 rw [this]
theorem WI.reobj {S : Snap} {μ : List Mu} {w : World} (h : WI S μ Γ w) {p ver b : Nat} {l l' : List AV} {m : Mu} {ob : Obj} {cs : Array Value} (hp : Γ[p]? = some ⟨ver, some l⟩) (hm : μ[p]? = some m) (hb : m.blk = some b)
  (hob : Img ob m cs) (hl : VP S μ l' cs.toList) : WI S μ (Γ.set p ⟨ver, some l'⟩) (ChangeMaps.setBlock w b ob) := by
 have hpl := lt_of_getElem? hp
 obtain ⟨c0, T0, e0, e1, e2, e3⟩ := own_any h hp hm hb
 have hSne : ∀ b' c, S b' = some c → b ≠ b' := fun b' c hs e => by subst e; rw [e3] at hs; cases hs
 refine ⟨fun b' c hs => ?_, by simp [h.len], ?_, ?_, ?_⟩
 ·rw [sb_ne _ (hSne b' c hs)]; exact h.snap b' c hs
 ·intro i g m1 hg hm1
  by_cases e : p = i
  ·subst e; simp [hpl] at hg; subst hg; exact h.ver p ⟨ver, some l⟩ m1 hp hm1
  ·rw [List.getElem?_set_ne e] at hg; exact h.ver i g m1 hg hm1
 ·intro i v1 l1 m1 hg hm1
  by_cases e : p = i
  ·subst e
   simp [hpl] at hg
   obtain ⟨_, rfl⟩ := hg
   rw [hm] at hm1; simp at hm1; subst hm1
   unfold OwnAt
   rw [hb]
   exact ⟨e3, cs, _, sb_at e0 ob, hob, hl⟩
  ·rw [List.getElem?_set_ne e] at hg
   have h1 := h.own i v1 l1 m1 hg hm1
   unfold OwnAt at h1 ⊢
   split at h1
   ·exact h1
   ·rename_i b1 hb1
    obtain ⟨k1, c1, T1, k2, k3⟩ := h1
    have hne : b ≠ b1 := fun eb => by
     subst eb
     exact e (h.sep p i _ _ m m1 b hp rfl hg rfl hm hm1 hb hb1)
    exact ⟨k1, c1, T1, by rw [sb_ne _ hne]; exact k2, k3⟩
 ·intro i i' g g' m1 m1' b1 hg hs hg' hs' hm1 hm1' hb1 hb1'
  have key : ∀ {i : Nat} {g : Ob}, (Γ.set p ⟨ver, some l'⟩)[i]? = some g → g.cells.isSome = true → ∃ g0, Γ[i]? = some g0 ∧ g0.cells.isSome = true := by
   intro i g hg hs
   by_cases e : p = i
   ·subst e; exact ⟨_, hp, rfl⟩
   ·rw [List.getElem?_set_ne e] at hg; exact ⟨g, hg, hs⟩
  obtain ⟨g0, k1, k2⟩ := key hg hs
  obtain ⟨g0', k1', k2'⟩ := key hg' hs'
  exact h.sep i i' g0 g0' m1 m1' b1 k1 k2 k1' k2' hm1 hm1' hb1 hb1'
structure RgOk (L : List (Int × Int × F)) (es : List MapEntry) (clk : Nat) : Prop where
 bn : BornOk es clk
 kd : es.Pairwise (fun a b => a.key ≠ b.key)
 me : ∃ es', es'.Perm es ∧ ME L es'
def EntAt (e : MapEntry) (y : Int × Int × F) : Prop := e.key = pk y.1 y.2.1 ∧ ∃ b, e.val = .float .f32 b ∧ FR .f32 b y.2.2
theorem RgOk.ent {L : List (Int × Int × F)} {es : List MapEntry} {clk : Nat} (h : RgOk L es clk) {e : MapEntry} (he : e ∈ es) : ∃ y, y ∈ L ∧ EntAt e y := by
 obtain ⟨es', h1, h2⟩ := h.me
 have he' : e ∈ es' := h1.mem_iff.2 he
 clear h1 h he
 induction L generalizing es' with
 | nil => cases es' with
  | nil => cases he'
  | cons _ _ => exact h2.elim
 | cons y L ih =>
  obtain ⟨r, c, x⟩ := y
  cases es' with
  | nil => simp [ME] at h2
  | cons f es' =>
   simp only [ME] at h2
   rcases List.mem_cons.1 he' with rfl | he'
   ·exact ⟨(r, c, x), by simp, h2.1, h2.2.1⟩
   ·obtain ⟨y, q1, q2⟩ := ih es' h2.2.2 he'
    exact ⟨y, by simp [q1], q2⟩
theorem fr_unique {k : FloatKind} {b : Nat} {x y : F} (hx : FR k b x) (hy : FR k b y) : x = y := by
 cases x with
 | none => cases y with
  | none => rfl
  | some c => simp only [FR] at hx hy; obtain ⟨rfl, _, h⟩ := hy; rw [hx.2] at h; cases h
 | some a => cases y with
  | none => simp only [FR] at hx hy; obtain ⟨rfl, _, h⟩ := hx; rw [hy.2] at h; cases h
  | some c => simp only [FR] at hx hy; rw [← hx.1, ← hy.1]
theorem EntAt.unique {e : MapEntry} {y z : Int × Int × F} (hy : EntAt e y) (hz : EntAt e z) : y = z := by
 obtain ⟨a, b, x⟩ := y
 obtain ⟨c, d, u⟩ := z
 obtain ⟨h1, b1, h2, h3⟩ := hy
 obtain ⟨k1, b2, k2, k3⟩ := hz
 simp only at h1 h3 k1 k3
 obtain ⟨rfl, rfl⟩ := pk_inj (h1.symm.trans k1)
 rw [h2] at k2
 simp at k2
 subst k2
 rw [fr_unique h3 k3]
def EntsAt : List MapEntry → List (Int × Int × F) → Prop
 | [], [] => True
 | e :: es, y :: ys => EntAt e y ∧ EntsAt es ys
 | _, _ => False
theorem EntsAt.snoc : ∀ {es : List MapEntry} {ys : List (Int × Int × F)} {e : MapEntry} {y : Int × Int × F}, EntsAt es ys → EntAt e y → EntsAt (es ++ [e]) (ys ++ [y])
 | [], [], _, _, _, h => ⟨h, trivial⟩
 | _ :: _, _ :: _, _, _, h, k => ⟨h.1, EntsAt.snoc h.2 k⟩
 | [], _ :: _, _, _, h, _ => h.elim
 | _ :: _, [], _, _, h, _ => h.elim
theorem ents_me : ∀ {es : List MapEntry} {L : List (Int × Int × F)}, ME L es → EntsAt es L
 | [], [], _ => trivial
 | [], _ :: _, h => by simp [ME] at h
 | _ :: _, [], h => h.elim
 | e :: es, (r, c, x) :: L, h => by
  simp only [ME] at h
  exact ⟨⟨h.1, h.2.1⟩, ents_me h.2.2⟩
theorem ents_perm {es fs : List MapEntry} (hp : es.Perm fs) : ∀ {ys : List (Int × Int × F)}, EntsAt es ys → ∃ zs, EntsAt fs zs ∧ ys.Perm zs := by
 induction hp with
 | nil => intro ys h; exact ⟨ys, h, .refl _⟩
 | cons x _ ih =>
  intro ys h
  cases ys with
  | nil => exact h.elim
  | cons y ys => obtain ⟨zs, k1, k2⟩ := ih h.2; exact ⟨y :: zs, ⟨h.1, k1⟩, k2.cons y⟩
 | swap x x' l =>
  intro ys h
  match ys, h with
  | y :: y' :: ys, h => exact ⟨y' :: y :: ys, ⟨h.2.1, h.1, h.2.2⟩, .swap _ _ _⟩
  | [_], h => exact h.2.elim
  | [], h => exact h.elim
 | trans _ _ ih1 ih2 =>
  intro ys h
  obtain ⟨zs, k1, k2⟩ := ih1 h
  obtain ⟨us, k3, k4⟩ := ih2 k1
  exact ⟨us, k3, k2.trans k4⟩
theorem ents_unique : ∀ {es : List MapEntry} {ys zs : List (Int × Int × F)}, EntsAt es ys → EntsAt es zs → ys = zs
 | [], [], [], _, _ => rfl
 | _ :: _, _ :: _, _ :: _, h, k => by rw [h.1.unique k.1, ents_unique h.2 k.2]
 | [], _ :: _, _, h, _ => h.elim
 | _ :: _, [], _, h, _ => h.elim
 | [], [], _ :: _, _, k => k.elim
 | _ :: _, _ :: _, [], _, k => k.elim
theorem RgOk.perm {L : List (Int × Int × F)} {es : List MapEntry} {clk : Nat} (h : RgOk L es clk) {ds : List MapEntry} (hd : ds.Perm es) {ys : List (Int × Int × F)} (hy : EntsAt ds ys) : ys.Perm L := by
 obtain ⟨es', h1, h2⟩ := h.me
 obtain ⟨zs, k1, k2⟩ := ents_perm (hd.trans h1.symm) hy
 rw [← ents_unique k1 (ents_me h2)]
 exact k2
theorem RgOk.list {L : List (Int × Int × F)} {es : List MapEntry} {clk : Nat} (h : RgOk L es clk) : ∀ ds : List MapEntry, (∀ e ∈ ds, e ∈ es) → ∃ ys, EntsAt ds ys
 | [], _ => ⟨[], trivial⟩
 | e :: ds, hd => by
  obtain ⟨y, _, hy⟩ := h.ent (hd e (by simp))
  obtain ⟨ys, k⟩ := RgOk.list h ds fun f hf => hd f (by simp [hf])
  exact ⟨y :: ys, hy, k⟩
theorem ROp.rng {N : Nat} {t k e : TypeId} {x : Operand} {p ver q v : Nat} {L : List (Int × Int × F)} {mk : List AV} {K : List (Nat × AV) → List Ob → Prop} (ht : ∀ w, (underlying t).run P w = .ok (.map k e) w)
  (ho : o.op = .range t x) (hd : dstLt N o = true) (hx : ev τ x = .mref p ver) (hp : Γ[p]? = some ⟨ver, some (mpx mk L)⟩) (hq : Γ[q]? = some ⟨v, none⟩)
  (hQ : ∀ (es : List MapEntry) (clk : Nat), RgOk L es clk → K (put τ o.dst (.itr q (v + 1))) ((Γ.set p ⟨ver, some (mpx [.x (encE es), .i64 clk] L)⟩).set q ⟨v + 1, some [.mref p ver, .x (encE []), .i64 clk, .i64 clk]⟩)) : ROp P N o τ Γ K := by
 intro S0 μ0 w0 S μ ac w hi next Q hnx
 have hw := hi.wi
 have k1 := hi.ci.ev x
 rw [hx] at k1
 have k1' := k1
 simp only [V] at k1
 obtain ⟨m, bk, h1, h2, h3, h4⟩ := k1
 obtain ⟨hb, hmp⟩ := h4 (hw.ver p _ m hp h1)
 obtain ⟨es, clk, es', mv, e1, e2, e3, _, e4⟩ := own_map hw hp h1 hb hmp
 have hpq : p ≠ q := fun e => by subst e; rw [hp] at hq; simp at hq
 have hrun : (execOp ac.eval o).run P w = .ok (.value (.pointer (some ⟨w.heap.size, 0, none⟩))) (w.alloc (.mapIter (some bk) clk #[] clk)) := by
  simp [execOp, ho, h3, Instr.range, ht, run_getObj e1]
 have hw1 := hw.reobj (ob := .map es clk) (l' := mpx [.x (encE es.toList), .i64 clk] L) (cs := (es'.map mval ++ [Value.tuple #[encE es.toList, Value.int .i64 clk]]).toArray) hp h1 hb
  (by unfold Img; rw [hmp]; exact .inl ⟨es, clk, es', #[encE es.toList, .int .i64 clk], rfl, ⟨e2.bn, e2.kd, e2.pm, fun s a b hh => by simp at hh, fun es0 clk0 hh => by
   simp at hh
   exact ⟨encE_inj hh.1, by omega⟩⟩, by simp⟩)
  (by simpa using vp_mpx.2 ⟨e3, by simp [VL, V]⟩)
 rw [sb_self e1] at hw1
 have hG : Grow w (w.alloc (.mapIter (some bk) clk #[] clk)) := ⟨by simp, fun b hb => heap_alloc_old w _ hb, rfl, rfl, rfl⟩
 have hq2 : (Γ.set p ⟨ver, some (mpx [.x (encE es.toList), .i64 clk] L)⟩)[q]? = some ⟨v, none⟩ := by rw [List.getElem?_set_ne hpq]; exact hq
 obtain ⟨r1, r2⟩ := hw1.fill_any hG (l := [.mref p ver, .x (encE []), .i64 clk, .i64 clk]) (mn := ⟨v + 1, some w.heap.size, 0, 0, true⟩) (cs := #[.map (some bk), encE [], .int .i64 clk, .int .i64 clk]) hq2 rfl
  (fun b hb => by cases hb; exact ⟨Nat.le_refl _, _, heap_alloc_new w _, .inr ⟨bk, clk, #[], clk, [], rfl, by simp, by simp⟩⟩) (by simp) (by
   simp only [VP]
   exact ⟨by simp only [V]; exact ⟨m, bk, h1, h2, rfl, h4⟩, by simp [V]⟩)
 have hml : q < μ.length := by rw [hw1.len]; exact lt_of_getElem? hq2
 unfold Oper.wp
 rw [hrun]
 refine hnx S _ _ _ _ _ (SExt.refl S) (hQ es.toList clk ⟨e2.bn, e2.kd, es', e2.pm, e3⟩) ⟨hi.fr.grow (SExt.refl S) (SFresh.refl _ S) r2 hG, r1, (hi.ci.mono (SExt.refl S) r2.le).put (fun d hd' => by rw [hi.tsz.1]; exact dstLt_spec hd d hd') ?_, by rw [put_size]; exact hi.tsz, by rw [put_defers]; exact hi.dfr⟩
 simp only [V]
 exact ⟨_, _, by simp [hml]; rfl, Nat.le_refl _, rfl, fun _ => ⟨rfl, rfl⟩⟩
theorem own_itr {S : Snap} {μ : List Mu} {w : World} (hw : WI S μ Γ w) {p ver q vq : Nat} {L : List (Int × Int × F)} {es ds : List MapEntry} {clk : Nat} (hq : Γ[q]? = some ⟨vq, some [.mref p ver, .x (encE ds), .i64 clk, .i64 clk]⟩) (hp : Γ[p]? = some ⟨ver, some (mpx [.x (encE es), .i64 clk] L)⟩) {m : Mu} (hm : μ[q]? = some m) {b : Nat} (hb : m.blk = some b) (hmp : m.mp = true) :
  ∃ mb seen fs, w.heap[b]? = some (.mapIter (some mb) clk seen clk) ∧ seen.toList = ds.map (·.born) ∧ w.heap[mb]? = some (.map fs clk) ∧ fs.toList = es ∧ BornOk es clk ∧ es.Pairwise (fun a b => a.key ≠ b.key) ∧ S b = none ∧
   ∀ ds' (S' : Snap), VP S' μ [.mref p ver, .x (encE ds'), .i64 clk, .i64 clk] [.map (some mb), encE ds', .int .i64 clk, .int .i64 clk] := by
 obtain ⟨cs, T, e1, e2, e3, e4⟩ := own_any hw hq hm hb
 unfold Img at e2
 rw [hmp] at e2
 rcases e2 with ⟨es1, clk1, es', mv, rfl, k1, k2⟩ | ⟨mb, since, seen, last, ds1, rfl, k1, k2⟩
 ·rw [k2] at e3
  cases es' with
  | nil => simp [VP, V] at e3
  | cons x es' => simp [VP, V, mval] at e3
 ·rw [k2] at e3
  simp only [VP, V] at e3
  obtain ⟨⟨m2, b2, j1, j2, j3, j4⟩, j5, j6, j7, _⟩ := e3
  have hds := encE_inj j5
  simp at j3 j6 j7
  subst j3
  subst hds
  obtain rfl : since = clk := by omega
  obtain rfl : last = since := by omega
  obtain ⟨hb2, hmp2⟩ := j4 (hw.ver p _ m2 hp j1)
  obtain ⟨fs, clk2, es', mv, f1, f2, f3, f4, f5⟩ := own_map hw hp j1 hb2 hmp2
  have hmv : mv = #[encE es, .int .i64 (last : Nat)] := by
   apply Array.ext'
   match hl : mv.toList, f4 with
   | [u, v], f4 => simp only [VL, V] at f4; obtain ⟨rfl, rfl, _⟩ := f4; rfl
   | [], f4 => simp [VL] at f4
   | [_], f4 => simp [VL] at f4
   | _ :: _ :: _ :: _, f4 => simp [VL] at f4
  obtain ⟨g1, g2⟩ := f2.ex es last hmv
  subst g2
  refine ⟨mb, seen, fs, e1, k1, f1, g1, by rw [← g1]; exact f2.bn, by rw [← g1]; exact f2.kd, e4, fun ds' S' => ?_⟩
  simp only [VP]
  exact ⟨by simp only [V]; exact ⟨m2, mb, j1, j2, rfl, j4⟩, by simp [V]⟩
theorem ROp.nxt {N : Nat} {t : TypeId} {x : Operand} {p ver q vq : Nat} {L : List (Int × Int × F)} {es ds : List MapEntry} {clk : Nat} {K : List (Nat × AV) → List Ob → Prop}
  (ho : o.op = .next x false) (ht : o.type = t) (hd : dstLt N o = true) (hx : ev τ x = .itr q vq) (hq : Γ[q]? = some ⟨vq, some [.mref p ver, .x (encE ds), .i64 clk, .i64 clk]⟩) (hp : Γ[p]? = some ⟨ver, some (mpx [.x (encE es), .i64 clk] L)⟩)
  (hend : (∀ e ∈ es, e.born ∈ ds.map (·.born)) → K (put τ o.dst (.tup [.b false])) Γ)
  (hstep : ∀ e ∈ es, e.born ∉ ds.map (·.born) → K (put τ o.dst (.tup [.b true, .any, .any])) (Γ.set q ⟨vq, some [.mref p ver, .x (encE (ds ++ [e])), .i64 clk, .i64 clk]⟩)) : ROp P N o τ Γ K := by
 intro S0 μ0 w0 S μ ac w hi next Q hnx
 have hw := hi.wi
 have k1 := hi.ci.ev x
 rw [hx] at k1
 simp only [V] at k1
 obtain ⟨m, bk, h1, h2, h3, h4⟩ := k1
 obtain ⟨hb, hmp⟩ := h4 (hw.ver q _ m hq h1)
 obtain ⟨mb, seen, fs, f1, f2, f3, f4, f5, f6, f7, f8⟩ := own_itr hw hq hp h1 hb hmp
 have hold : ∀ x ∈ fs.toList, x.born < clk := by rw [f4]; exact f5.2
 have hmem : ∀ e : MapEntry, e ∈ (leftOf fs seen).toList ↔ e ∈ es ∧ e.born ∉ ds.map (·.born) := by
  intro e
  rw [← f4, ← f2]
  simp [leftOf]
 unfold Oper.wp
 rcases run_next_at (P := P) w t bk mb clk clk seen fs clk f1 f3 hold (Nat.le_refl _) with ⟨g1, g2⟩ | ⟨e, g1, w1, g2, g3⟩
 ·have hrun : (execOp ac.eval o).run P w = .ok (.value (.tuple #[.bool false])) w := by
   simp [execOp, ho, h3, ht, g2]
  rw [hrun]
  refine hnx S μ _ w _ _ (SExt.refl S) (hend fun e he => ?_) ⟨hi.fr, hw, hi.ci.put (fun d hd' => by rw [hi.tsz.1]; exact dstLt_spec hd d hd') ?_, by rw [put_size]; exact hi.tsz, by rw [put_defers]; exact hi.dfr⟩
  ·refine Classical.byContradiction fun hne => ?_
   have := (hmem e).2 ⟨he, hne⟩
   have h0 : (leftOf fs seen).toList = [] := List.eq_nil_of_length_eq_zero (by simpa using g1)
   rw [h0] at this
   cases this
  ·simp only [V]; exact ⟨_, rfl, by simp [VL, V]⟩
 ·have hrun : (execOp ac.eval o).run P w = .ok (.value (.tuple #[.bool true, e.key, e.val])) (ChangeMaps.setBlock w1 bk (.mapIter (some mb) clk (seen.push e.born) clk)) := by
   simp [execOp, ho, h3, ht, g3]
  rw [hrun]
  have hG1 : Grow w w1 := by
   rcases g2 with rfl | rfl
   ·exact Grow.refl _
   ·exact ⟨Nat.le_refl _, fun _ _ => rfl, rfl, rfl, rfl⟩
  have hfr1 : FrI S0 μ0 w0 S μ w1 := by
   rcases g2 with rfl | rfl
   ·exact hi.fr
   ·exact ⟨hi.fr.ext, hi.fr.le, hi.fr.new, hi.fr.keep, hi.fr.size, hi.fr.os, hi.fr.tape, hi.fr.output, hi.fr.sf⟩
  have hw1 : WI S μ Γ w1 := hw.grow hG1
  obtain ⟨he1, he2⟩ := (hmem e).1 g1
  have hw2 := hw1.reobj (ob := .mapIter (some mb) clk (seen.push e.born) clk) (l' := [.mref p ver, .x (encE (ds ++ [e])), .i64 clk, .i64 clk]) (cs := #[.map (some mb), encE (ds ++ [e]), .int .i64 clk, .int .i64 clk]) hq h1 hb
   (by unfold Img; rw [hmp]; exact .inr ⟨mb, clk, seen.push e.born, clk, ds ++ [e], rfl, by simp [f2], rfl⟩) (f8 (ds ++ [e]) S)
  refine hnx S μ _ _ _ _ (SExt.refl S) (hstep e he1 he2) ⟨?_, hw2, hi.ci.put (fun d hd' => by rw [hi.tsz.1]; exact dstLt_spec hd d hd') ?_, by rw [put_size]; exact hi.tsz, by rw [put_defers]; exact hi.dfr⟩
  ·refine ⟨hfr1.ext, hfr1.le, hfr1.new, ?_, by simpa [ChangeMaps.setBlock] using hfr1.size, hfr1.os, hfr1.tape, hfr1.output, hfr1.sf⟩
   intro b' hb' hno
   have hne : bk ≠ b' := by
    intro e
    subst e
    rcases hfr1.new q m bk h1 hb with ⟨m0, q1, q2⟩ | q
    ·exact hno q m0 q1 q2
    ·omega
   rw [sb_ne _ hne]
   exact hfr1.keep b' hb' hno
  ·simp only [V]; exact ⟨_, rfl, by simp [VL, V]⟩
theorem TOp.entry {x : Operand} {p ver q vq : Nat} {L : List (Int × Int × F)} {es ds : List MapEntry} {e : MapEntry} {clk : Nat} {a b : Int} {y : F}
  (ho : o.op = .entry x) (hx : ev τ x = .itr q vq) (hq : Γ[q]? = some ⟨vq, some [.mref p ver, .x (encE (ds ++ [e])), .i64 clk, .i64 clk]⟩) (hp : Γ[p]? = some ⟨ver, some (mpx [.x (encE es), .i64 clk] L)⟩) (he : e ∈ es) (hy : EntAt e (a, b, y)) : TOp P o τ Γ (.tup [.agg [.i64 a, .i64 b], .f32 y]) [] := by
 intro S μ Γ2 ac w hL _ hw h next Q hn
 have k1 := opnd h (x := x) (by simp [ho, Op.operands]) hx
 simp only [V] at k1
 obtain ⟨m, bk, h1, h2, h3, h4⟩ := k1
 have hq2 := hL.2 q vq _ hq
 have hp2 := hL.2 p ver _ hp
 obtain ⟨hb, hmp⟩ := h4 (hw.ver q _ m hq2 h1)
 obtain ⟨mb, seen, fs, f1, f2, f3, f4, f5, f6, f7, f8⟩ := own_itr hw hq2 hp2 h1 hb hmp
 obtain ⟨seen', hs⟩ : ∃ s' : Array Nat, seen = s'.push e.born := by
  refine ⟨(ds.map (·.born)).toArray, ?_⟩
  apply Array.ext'
  rw [f2]; simp
 rw [hs] at f1
 have hnd : (fs.toList.map (·.born)).Nodup := by
  rw [f4, List.Nodup, List.pairwise_map]
  exact f5.1.imp fun hab => Nat.ne_of_lt hab
 have hr := run_entry_at (P := P) w bk mb clk seen' fs clk e f1 f3 (by rw [f4]; exact he) hnd
 have : (execOp ac.eval o).run P w = .ok (.value (.tuple #[e.key, e.val])) w := by
  simp [execOp, ho, h3, hr]
 unfold Oper.wp
 rw [this]
 refine hn S μ _ w (SExt.refl S) (SFresh.refl _ S) (MuStep.refl _ _ _) hw ?_ (Grow.refl w)
 obtain ⟨g1, bb, g2, g3⟩ := hy
 simp only [V]
 exact ⟨_, rfl, by simp [VL, V, g1, g2, pk, g3]⟩
def foldO {σ ε : Type} (f : σ → ε → Option σ) : σ → List ε → Option σ
 | s, [] => some s
 | s, e :: l => match f s e with
  | some s' => foldO f s' l
  | none => none
theorem foldO_append {σ ε : Type} (f : σ → ε → Option σ) : ∀ (l m : List ε) (s : σ), foldO f s (l ++ m) = (foldO f s l).bind fun t => foldO f t m
 | [], _, _ => rfl
 | e :: l, m, s => by
  simp only [List.cons_append, foldO]
  cases f s e with
  | none => rfl
  | some s' => exact foldO_append f l m s'
open Classical in
noncomputable def ordM {σ ε : Type} (R : σ → σ → Prop) (f : σ → ε → Option σ) (s : σ) (L : List ε) : Option σ :=
 if h : ∃ z, ∀ π : List ε, π.Perm L → ∃ z', foldO f s π = some z' ∧ R z' z then some (Classical.choose h) else none
theorem ordM_spec {σ ε : Type} {R : σ → σ → Prop} {f : σ → ε → Option σ} {s z : σ} {L : List ε} (h : ordM R f s L = some z) : ∀ π : List ε, π.Perm L → ∃ z', foldO f s π = some z' ∧ R z' z := by
 unfold ordM at h
 split at h
 ·rename_i hh
  simp only [Option.some.injEq] at h
  subst h
  exact Classical.choose_spec hh
 ·cases h
theorem ordM_of {σ ε : Type} {R : σ → σ → Prop} {f : σ → ε → Option σ} {s z : σ} {L : List ε} (h : ∀ π : List ε, π.Perm L → ∃ z', foldO f s π = some z' ∧ R z' z) : ∃ z1, ordM R f s L = some z1 := by
 unfold ordM
 rw [dif_pos ⟨z, h⟩]
 exact ⟨_, rfl⟩
theorem ext_perm {α : Type} [DecidableEq α] {ds es : List α} (hd : ds.Nodup) (he : es.Nodup) (hs : ∀ a ∈ ds, a ∈ es) : ∃ rest, (ds ++ rest).Perm es := by
 refine ⟨es.filter (fun a => !decide (a ∈ ds)), (List.perm_ext_iff_of_nodup ?_ he).2 fun a => ?_⟩
 ·refine List.nodup_append.2 ⟨hd, he.filter _, fun a ha b hb hab => ?_⟩
  subst hab
  have := (List.mem_filter.1 hb).2
  simp [ha] at this
 ·simp only [List.mem_append, List.mem_filter, Bool.not_eq_true', decide_eq_false_iff_not]
  constructor
  ·rintro (h | h)
   ·exact hs a h
   ·exact h.1
  ·intro h
   by_cases h' : a ∈ ds
   ·exact .inl h'
   ·exact .inr ⟨h, h'⟩
theorem RgOk.nodup {L : List (Int × Int × F)} {es : List MapEntry} {clk : Nat} (h : RgOk L es clk) : es.Nodup := h.bn.1.imp fun hab e => by subst e; omega
theorem RgOk.born_inj {L : List (Int × Int × F)} {es : List MapEntry} {clk : Nat} (h : RgOk L es clk) {x y : MapEntry} (hx : x ∈ es) (hy : y ∈ es) (e : x.born = y.born) : x = y := by
 obtain ⟨i1, l1, y1⟩ := List.mem_iff_getElem.1 hx
 obtain ⟨i2, l2, y2⟩ := List.mem_iff_getElem.1 hy
 rcases Nat.lt_trichotomy i1 i2 with hl | hl | hl
 ·have := (List.pairwise_iff_getElem.1 h.bn.1) i1 i2 l1 l2 hl
  rw [y1, y2] at this; omega
 ·subst hl; rw [← y1, ← y2]
 ·have := (List.pairwise_iff_getElem.1 h.bn.1) i2 i1 l2 l1 hl
  rw [y1, y2] at this; omega
theorem ents_split : ∀ {es fs : List MapEntry} {ys us : List (Int × Int × F)}, EntsAt es ys → EntsAt (es ++ fs) us → ∃ vs, us = ys ++ vs
 | [], _, [], us, _, _ => ⟨us, rfl⟩
 | e :: es, fs, y :: ys, u :: us, h, k => by
  obtain ⟨vs, e1⟩ := ents_split h.2 (show EntsAt (es ++ fs) us from k.2)
  exact ⟨vs, by rw [e1, h.1.unique k.1]; rfl⟩
 | _ :: _, _, _ :: _, [], _, k => k.elim
 | [], _, _ :: _, _, h, _ => h.elim
 | _ :: _, _, [], _, h, _ => h.elim
theorem RunL.wl {N : Nat} {Q : PQ} {c : Code} {τ' : List (Nat × AV)} {Γ' : List Ob} (hw : WeakLe τ τ') (hd : DeadLe Γ Γ') (h : RunL P N c τ' Γ' Q) : RunL P N c τ Γ Q :=
 fun S0 μ0 w0 S μ a w hi => h S0 μ0 w0 S μ a w ⟨hi.fr, hi.wi.dead hd, fun t => WeakLe.look (hi.ci t) hw, hi.tsz, hi.dfr⟩
theorem RunC.rangeM {N : Nat} {Q : PQ} {σ γ : Type} {R : σ → σ → Prop} {step : σ → (Int × Int × F) → Option σ} {s0 z : σ} {L : List (Int × Int × F)} (hz : ordM R step s0 L = some z)
  {bl id tn tk : Nat} {x : Operand} {body : Code} {o1 o2 : Oper} {p ver q vq clk : Nat} {es : List MapEntry} (τf : γ → σ → List (Nat × AV)) (Γf : γ → σ → List MapEntry → List Ob) (I : σ → Prop) (g0 : γ) (hI : I s0)
  (ho1 : o1.op = .next x false) (hd1 : o1.dst = some tn) (hw1 : ∀ τ, wantT #[o1, o2] τ o1 = some true) (hN1 : Nat.blt tn (N / 2) = true) (ho2 : o2.op = .extract (.tmp tn) 0) (hd2 : o2.dst = some tk) (hw2 : ∀ τ, wantT #[o1, o2] τ o2 = some true) (hN2 : Nat.blt tk (N / 2) = true)
  (rg : RgOk L es clk) (hx : ∀ g s, ev (τf g s) x = .itr q vq) (hq : ∀ g s ds, (Γf g s ds)[q]? = some ⟨vq, some [.mref p ver, .x (encE ds), .i64 clk, .i64 clk]⟩) (hp : ∀ g s ds, (Γf g s ds)[p]? = some ⟨ver, some (mpx [.x (encE es), .i64 clk] L)⟩)
  (hset : ∀ g s ds e, (Γf g s ds).set q ⟨vq, some [.mref p ver, .x (encE (ds ++ [e])), .i64 clk, .i64 clk]⟩ = Γf g s (ds ++ [e]))
  (hbody : ∀ g s s' ds e y, I s → e ∈ es → EntAt e y → step s y = some s' → RunC P N body ((tk, .b true) :: (tn, .tup [.b true, .any, .any]) :: τf g s) (Γf g s (ds ++ [e])) (fun ex τ Γ => ex = .normal ∧ I s' ∧ ∃ g', WeakLe τ (τf g' s') ∧ DeadLe Γ (Γf g' s' (ds ++ [e]))))
  (hend : ∀ g z' ds, I z' → R z' z → Q .normal ((tk, .b false) :: (tn, .tup [.b false]) :: τf g z') (Γf g z' ds)) :
  RunC P N (.block bl (.loop (.seq (.region id #[o1, o2] false) (.seq (.cond (.tmp tk) .skip (.exit bl)) body)))) (τf g0 s0) (Γf g0 s0 []) Q := by
 classical
 have hcond : ∀ (b : Bool) (v : AV) (τ : List (Nat × AV)), ev ((tk, .b b) :: (tn, v) :: τ) (.tmp tk) = .x (.bool b) := fun b v τ => by simp [ev, look]
 have hex : ∀ (v : AV) (τ : List (Nat × AV)), ev ((tn, v) :: τ) (.tmp tn) = v := fun v τ => by simp [ev, look]
 refine RunC.block (RunC.loop ?_)
 have one : ∀ (g : γ) (ds : List MapEntry) (ys : List (Int × Int × F)) (s : σ), ds.Nodup → (∀ e ∈ ds, e ∈ es) → EntsAt ds ys → foldO step s0 ys = some s → I s →
   (∀ (g' : γ) (ds' : List MapEntry) (ys' : List (Int × Int × F)) (s' : σ), ds'.length = ds.length + 1 → ds'.Nodup → (∀ e ∈ ds', e ∈ es) → EntsAt ds' ys' → foldO step s0 ys' = some s' → I s' →
    RunL P N (.seq (.region id #[o1, o2] false) (.seq (.cond (.tmp tk) .skip (.exit bl)) body)) (τf g' s') (Γf g' s' ds') (blockQ bl Q)) →
   RunL P N (.seq (.region id #[o1, o2] false) (.seq (.cond (.tmp tk) .skip (.exit bl)) body)) (τf g s) (Γf g s ds) (blockQ bl Q) := by
  intro g ds ys s hnd hsub hents hfold hIs hnext
  refine RunL.step (RunC.seq (RunC.region (l := [o1, o2]) (ROps.op (hw1 _) (ROp.nxt ho1 rfl (by simp only [dstLt, hd1]; simpa using hN1) (hx g s) (hq g s ds) (hp g s ds) (fun hall => ?_) (fun e he hne => ?_)))))
  ·rw [hd1]
   refine ROps.l (r := .b false) (hw2 _) hd2 hN2 (LOp.extract ho2 (hex _ _) rfl) (ROps.nil ?_)
   have hperm : ds.Perm es := (List.perm_ext_iff_of_nodup hnd rg.nodup).2 fun e => ⟨hsub e, fun he => by
    obtain ⟨d, hd, hb⟩ := List.mem_map.1 (hall e he)
    rw [← rg.born_inj (hsub d hd) he hb]; exact hd⟩
   obtain ⟨z', k1, k2⟩ := ordM_spec hz ys (rg.perm hperm hents)
   rw [hfold] at k1
   simp only [Option.some.injEq] at k1
   subst k1
   refine RunC.seq (RunC.cond_false (hcond _ _ _) rfl (RunC.exit ?_))
   show blockQ bl Q (.exit bl) _ _
   simp only [blockQ, if_pos]
   exact hend g s ds hIs k2
  ·rw [hd1]
   refine ROps.l (r := .b true) (hw2 _) hd2 hN2 (LOp.extract ho2 (hex _ _) rfl) (ROps.nil ?_)
   obtain ⟨y, _, hy⟩ := rg.ent he
   have hnd' : (ds ++ [e]).Nodup := by
    refine List.nodup_append.2 ⟨hnd, by simp, fun a ha b hb hab => ?_⟩
    simp at hb
    subst hb
    subst hab
    exact hne (List.mem_map.2 ⟨a, ha, rfl⟩)
   have hsub' : ∀ f ∈ ds ++ [e], f ∈ es := fun f hf => by
    rcases List.mem_append.1 hf with hf | hf
    ·exact hsub f hf
    ·simp at hf; subst hf; exact he
   have hents' : EntsAt (ds ++ [e]) (ys ++ [y]) := hents.snoc hy
   obtain ⟨rest, hrest⟩ := ext_perm hnd' rg.nodup hsub'
   obtain ⟨us, hus⟩ := rg.list ((ds ++ [e]) ++ rest) fun f hf => hrest.mem_iff.1 hf
   have hsplit : ∃ vs, us = (ys ++ [y]) ++ vs := ents_split hents' hus
   obtain ⟨vs, rfl⟩ := hsplit
   obtain ⟨z', k1, _⟩ := ordM_spec hz _ (rg.perm hrest hus)
   rw [foldO_append] at k1
   obtain ⟨s', k3⟩ : ∃ s', foldO step s0 (ys ++ [y]) = some s' := by
    cases hh : foldO step s0 (ys ++ [y]) with
    | none => rw [hh] at k1; cases k1
    | some s' => exact ⟨s', rfl⟩
   have k4 : step s y = some s' := by
    rw [foldO_append, hfold] at k3
    simp only [Option.bind_some, foldO] at k3
    cases hh : step s y with
    | none => rw [hh] at k3; cases k3
    | some s'' => rw [hh] at k3; simpa using k3
   rw [hset]
   refine RunC.seq (RunC.cond_true (hcond _ _ _) rfl (RunC.skip ?_))
   show RunC P N body _ _ _
   refine (hbody g s s' ds e y hIs he hy k4).mono ?_
   rintro ex τ2 Γ2 ⟨rfl, hI', g', h1, h2⟩
   exact RunL.wl h1 h2 (hnext g' (ds ++ [e]) (ys ++ [y]) s' (by simp) hnd' hsub' hents' k3 hI')
 have key : ∀ (n : Nat) (g : γ) (ds : List MapEntry) (ys : List (Int × Int × F)) (s : σ), es.length - ds.length ≤ n → ds.Nodup → (∀ e ∈ ds, e ∈ es) → EntsAt ds ys → foldO step s0 ys = some s → I s →
   RunL P N (.seq (.region id #[o1, o2] false) (.seq (.cond (.tmp tk) .skip (.exit bl)) body)) (τf g s) (Γf g s ds) (blockQ bl Q) := by
  have hlen : ∀ ds : List MapEntry, ds.Nodup → (∀ e ∈ ds, e ∈ es) → ds.length ≤ es.length := fun ds h1 h2 => by
   obtain ⟨rest, h⟩ := ext_perm h1 rg.nodup h2
   have := h.length_eq
   simp at this; omega
  intro n
  induction n with
  | zero =>
   intro g ds ys s hn h1 h2 h3 h4 h5
   exact one g ds ys s h1 h2 h3 h4 h5 fun g' ds' ys' s' k1 k2 k3 _ _ _ => by have := hlen ds' k2 k3; omega
  | succ n ih =>
   intro g ds ys s hn h1 h2 h3 h4 h5
   exact one g ds ys s h1 h2 h3 h4 h5 fun g' ds' ys' s' k1 k2 k3 k4 k5 k6 => ih g' ds' ys' s' (by omega) k2 k3 k4 k5 k6
 exact key _ g0 [] [] s0 (Nat.le_refl _) List.nodup_nil (fun e he => by cases he) trivial rfl hI
theorem ROps.rng {N : Nat} {all : Array Oper} {rest : List Oper} {Q : PQ} {t k e : TypeId} {x : Operand} {p ver q v d : Nat} {L : List (Int × Int × F)} {mk : List AV} {Γ' : List MapEntry → Nat → List Ob} (hw : wantT all τ o = some true) (ht : ∀ w, (underlying t).run P w = .ok (.map k e) w)
  (ho : o.op = .range t x) (hd : o.dst = some d) (hN : Nat.blt d (N / 2) = true) (hx : ev τ x = .mref p ver) (hp : Γ[p]? = some ⟨ver, some (mpx mk L)⟩) (hq : Γ[q]? = some ⟨v, none⟩)
  (hΓ : ∀ (es : List MapEntry) (clk : Nat), (Γ.set p ⟨ver, some (mpx [.x (encE es), .i64 clk] L)⟩).set q ⟨v + 1, some [.mref p ver, .x (encE []), .i64 clk, .i64 clk]⟩ = Γ' es clk)
  (h : ∀ (es : List MapEntry) (clk : Nat), RgOk L es clk → ROps P N all rest ((d, .itr q (v + 1)) :: τ) (Γ' es clk) Q) : ROps P N all (o :: rest) τ Γ Q := by
 refine ROps.op hw (ROp.rng ht ho (by simp only [dstLt, hd]; simpa using hN) hx hp hq fun es clk hr => ?_)
 rw [hd, hΓ]; exact h es clk hr
theorem RAny.lem {N : Nat} {Q : PQ} {all : Array Oper} {n : Nat} {l0 : Array Bool} {τ0 : List (Nat × AV)} {Γ0 : List Ob} (fuel : Nat) (listed : Array Bool) (τ : List (Nat × AV)) (Γ : List Ob) (h : RAny P N all fuel listed τ Γ Q) (k : RAny P N all fuel listed τ Γ Q → RAny P N all n l0 τ0 Γ0 Q) : RAny P N all n l0 τ0 Γ0 Q := k h
theorem RAny.use {N : Nat} {Q : PQ} {all : Array Oper} {fuel : Nat} {l l' : Array Bool} {τ' : List (Nat × AV)} (h : RAny P N all fuel l' τ' Γ Q) (hl : l = l') (hw : WeakLe τ τ') : RAny P N all fuel l τ Γ Q := by
 subst hl
 exact fun S0 μ0 w0 S μ a w hi => h S0 μ0 w0 S μ a w ⟨hi.fr, hi.wi, fun t => WeakLe.look (hi.ci t) hw, hi.tsz, hi.dfr⟩
end
end Go.AM
