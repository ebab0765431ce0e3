/- The abstract layer, part 1. -/
import Derived.ArgAppend
import Derived.Lib.Bytealg
import Derived.Laws.BytesArg
import Derived.Lib.ConvBytes
import Derived.Lib.AtoiErrMem
import Derived.Laws.AppendOwn
import Derived.Laws.FloatArith
import Derived.Laws.StructEq
import Derived.MapKept
import Derived.ProofKit
import Derived.Test.YtfhbfpdeafpelaaAm0
set_option linter.unusedVariables false
namespace Go.AM
def fabs (x : F) : F := x.map fun b => b % 2 ^ 63
section words
open Ieee
theorem read_neg {f : Format} (hw : f = single ∨ f = double) {b : Nat} (hb : b < 2 ^ f.width) : (f.read (b ^^^ f.signWeight)).isNaN = (f.read b).isNaN ∧ b ^^^ f.signWeight < 2 ^ f.width := by
 have hx : ∀ (e b : Nat), b < 2 ^ (e + 1) → (b ^^^ 2 ^ e) % 2 ^ e = b % 2 ^ e ∧ b ^^^ 2 ^ e < 2 ^ (e + 1) := by
  intro e b hb
  refine ⟨?_, Nat.xor_lt_two_pow hb (Nat.pow_lt_pow_right (by omega) (by omega))⟩
  apply Nat.eq_of_testBit_eq
  intro i
  simp only [Nat.testBit_mod_two_pow, Nat.testBit_xor, Nat.testBit_two_pow]
  by_cases h : i < e
  ·simp [h, show ¬ e = i by omega]
  ·simp [h]
 rcases hw with rfl | rfl
 ·have h := hx 31 b hb
  refine ⟨?_, h.2⟩
  have hs : single.signWeight = 2 ^ 31 := rfl
  simp only [Format.read, hs]
  rw [h.1]
  split
  ·rfl
  ·split
   ·rfl
   ·split <;> rfl
 ·have h := hx 63 b hb
  refine ⟨?_, h.2⟩
  have hs : double.signWeight = 2 ^ 63 := rfl
  simp only [Format.read, hs]
  rw [h.1]
  split
  ·rfl
  ·split
   ·rfl
   ·split <;> rfl
theorem FR.neg {k : FloatKind} {b : Nat} {c : F} (h : FR k b c) : FR k (Op.negFloat k b) (fneg k c) := by
 have hk : k.format = single ∨ k.format = double := by cases k <;> simp [FloatKind.format]
 have hs : 2 ^ (k.format.exponentBits + k.format.fractionBits) = k.format.signWeight := rfl
 cases c with
 | none =>
  obtain ⟨h1, h2⟩ := h
  have := read_neg hk h1
  exact ⟨by unfold Op.negFloat; rw [hs]; exact this.2, by unfold Op.negFloat; rw [hs, this.1]; exact h2⟩
 | some c =>
  obtain ⟨rfl, h1, h2⟩ := h
  have := read_neg hk h1
  exact ⟨rfl, by unfold Op.negFloat; rw [hs]; exact this.2, by unfold Op.negFloat; rw [hs, this.1]; exact h2⟩
theorem FR.abs {b : Nat} {c : F} (h : FR .f64 b c) : FR .f64 (b % 2 ^ 63) (fabs c) := by
 have hb : b % 2 ^ 63 < 2 ^ FloatKind.f64.format.width := Nat.lt_of_lt_of_le (Nat.mod_lt b (by omega)) (by decide)
 have hr : (double.read (b % 2 ^ 63)).isNaN = (double.read b).isNaN := by
  have hs : double.signWeight = 2 ^ 63 := rfl
  simp only [Format.read, hs, Nat.mod_mod]
  split
  ·rfl
  ·split
   ·rfl
   ·split <;> rfl
 cases c with
 | none => exact ⟨hb, hr.trans h.2⟩
 | some c => obtain ⟨rfl, h1, h2⟩ := h; exact ⟨rfl, hb, hr.trans h2⟩
theorem rung_aux (A B : Nat) (hA : A ≤ 1149) (hB : B < 2 ^ 53) : min (A * 4503599627370496 + B) 9218868437227405312 < 9218868437227405312 := by
 have h4 : A * 4503599627370496 ≤ 1149 * 4503599627370496 := Nat.mul_le_mul_right _ hA
 exact Nat.lt_of_le_of_lt (Nat.min_le_left _ _) (Nat.lt_of_lt_of_le (Nat.add_lt_add_of_le_of_lt h4 hB) (by decide))
theorem widen_finite {b : Nat} {s : Bool} {m : Nat} {e : Int} (h : FloatKind.f32.decode b = .number s m e) : (FloatKind.f64.decode (FloatKind.f64.encode (.number s m e))).isInfinity = false := by
 have hm : m < 2 ^ 24 ∧ -149 ≤ e ∧ e ≤ 104 := by
  have h' : single.read b = .number s m e := h
  have hs : single.signWeight = 2147483648 := rfl
  have hbn : single.binade = 8388608 := rfl
  have hi : single.infRung = 2139095040 := rfl
  have hl : single.leastPlace = -149 := rfl
  simp only [Format.read, hs, hbn, hi, hl] at h'
  split at h'
  ·simp at h'; omega
  ·split at h'
   ·simp at h'; omega
   ·split at h' <;> simp at h'
 show (double.read (double.nearest s m e)).isInfinity = false
 have key : ∀ rung, rung < double.infRung → (double.read (double.word s rung)).isInfinity = false := by
  intro rung hr
  have h1 := double.infRung_lt
  have h2 : double.word s rung % double.signWeight = rung := by
   unfold Format.word
   split
   ·rw [Nat.add_mod_left]; exact Nat.mod_eq_of_lt (by omega)
   ·exact Nat.mod_eq_of_lt (by omega)
  simp only [Format.read, h2]
  split
  ·rfl
  ·first | rfl | (rw [if_pos hr]; rfl)
 have hi : double.infRung = 9218868437227405312 := rfl
 have hbn : double.binade = 4503599627370496 := rfl
 have hl : double.leastPlace = -1074 := rfl
 have hf : double.fractionBits = 52 := rfl
 unfold Format.nearest
 split
 ·exact key 0 (by rw [hi]; omega)
 ·rename_i hm0
  have hlog : m.log2 ≤ 23 := by
   have := (Nat.log2_lt hm0).2 hm.1
   omega
  have hlt : m < 2 ^ (m.log2 + 1) := Nat.lt_log2_self
  simp only [hbn, hl, hf]
  have hlast : max (e + (m.log2 : Int) - ((52 : Nat) : Int)) (-1074) = e + (m.log2 : Int) - 52 := by omega
  rw [hlast]
  have h1 : (e - (e + (m.log2 : Int) - 52)).toNat = 52 - m.log2 := by omega
  have h2 : (e + (m.log2 : Int) - 52 - e).toNat = 0 := by omega
  rw [h1, h2]
  have hsh : m <<< (52 - m.log2) < 2 ^ 53 := by
   rw [Nat.shiftLeft_eq]
   have : m * 2 ^ (52 - m.log2) < 2 ^ (m.log2 + 1) * 2 ^ (52 - m.log2) := Nat.mul_lt_mul_of_pos_right hlt (Nat.two_pow_pos _)
   rw [← Nat.pow_add] at this
   rw [show m.log2 + 1 + (52 - m.log2) = 53 from by omega] at this
   exact this
  have hcut : Toward.even.cut s (m <<< (52 - m.log2)) 0 = m <<< (52 - m.log2) := by
   simp [Toward.cut, Nat.mod_one]
  rw [hcut]
  refine key _ ?_
  rw [hi]
  have h3 : (e + (m.log2 : Int) - 52 - -1074).toNat ≤ 1149 := by omega
  exact rung_aux _ _ h3 hsh
theorem nan_cut_conv {k : FloatKind} (x t : Nat) : FR k ((Question.nanConv k x).cut t) none := by
 have : (Question.nanConv k x).cut t = (Question.nanBits k x x).cut t := by cases k <;> rfl
 rw [this]; exact nan_cut x x t
theorem run_widen {P : Program} {b : Nat} {c : F} (h : FR .f32 b c) (w : World) : ∃ r w', (Conv.floatToFloat .f32 b .f64).run P w = .ok (.float .f64 r) w' ∧ FR .f64 r (fwiden c) ∧ Grow w w' := by
 have hd : ¬ FloatKind.f32 = FloatKind.f64 := by decide
 cases c with
 | none =>
  obtain ⟨h1, h2⟩ := h
  have h2' : (FloatKind.f32.decode b).isNaN = true := h2
  cases hdec : FloatKind.f32.decode b with
  | number s m e => rw [hdec] at h2'; cases h2'
  | infinity s => rw [hdec] at h2'; cases h2'
  | nan s t =>
   refine ⟨_, { w with drawn := w.drawn + 1 }, ?_, nan_cut_conv b (w.tape w.drawn (.nanConv .f64 b)), ⟨Nat.le_refl _, fun _ _ => rfl, rfl, rfl, rfl⟩⟩
   simp [Conv.floatToFloat, hdec, Question.forced]
 | some c =>
  obtain ⟨rfl, h1, h2⟩ := h
  have h2' : (FloatKind.f32.decode b).isNaN = false := h2
  refine ⟨FloatKind.f64.encode (FloatKind.f32.decode b), w, ?_, encode_FR .f64 h2', Grow.refl w⟩
  cases hdec : FloatKind.f32.decode b with
  | number s m e =>
   have := widen_finite hdec
   simp [Conv.floatToFloat, hdec, this]
  | infinity s => simp [Conv.floatToFloat, hdec]
  | nan s t => rw [hdec] at h2'; cases h2'
end words
section
variable {P : Program} {o : Oper} {τ : List (Nat × AV)} {Γ : List Ob}
theorem TOp.widen {src dst : TypeId} {x : Operand} {c : F} (hs : ∃ d, P.underlying src = some d) (hd : P.underlying dst = some (.float .f64)) (ho : o.op = .convert src dst x) (hx : OpF τ x .f32 c) : TOp P o τ Γ (.f64 (fwiden c)) [] := by
 intro S μ Γ2 a w _ _ hw h next Q hn
 obtain ⟨d, hs⟩ := hs
 obtain ⟨b, e1, f1⟩ := hx S μ a (h x (by simp [ho, Op.operands]))
 obtain ⟨r, w', hrun, hr, hg⟩ := run_widen (P := P) f1 w
 unfold Oper.wp
 have : (execOp a.eval o).run P w = .ok (.value (.float .f64 r)) w' := by
  cases d <;> simp [execOp, ho, e1, convert, run_underlying hs, run_underlying hd, hrun]
 rw [this]
 exact hn S μ _ w' (SExt.refl S) (SFresh.refl _ S) (MuStep.refl _ _ _) (hw.grow hg) (by simp only [V]; exact ⟨r, rfl, hr⟩) hg
theorem LOp.fneg {t : TypeId} {x : Operand} {k : FloatKind} {c : F} (ho : o.op = .unOp .neg t x) (hx : OpF τ x k c) : LOp P o τ (.f k (AM.fneg k c)) := by
 intro S μ a h
 obtain ⟨b, e1, f1⟩ := hx S μ a (h x (by simp [ho, Op.operands]))
 exact ⟨.float k (Op.negFloat k b), fun w _ => by simp [execOp, ho, e1, Op.unary], by simp only [V]; exact ⟨_, rfl, f1.neg⟩⟩
theorem LOp.fbits {f : FuncId} {k : FloatKind} {ik : IntKind} {x : Operand} {tys : Array TypeId} {c : F} (hc : ∀ b w, (callFunc f #[.float k b]).run P w = .ok (.value (.int ik b)) w) (ho : o.op = .call { callee := .value (.func f), args := #[x], argTypes := tys }) (hx : OpF τ x k c) : LOp P o τ (.bt k ik c) := by
 intro S μ a h
 obtain ⟨b, e1, f1⟩ := hx S μ a (h x (by simp [ho, Op.operands, Call.operands]))
 refine ⟨.int ik b, fun w _ => ?_, by simp only [V]; exact ⟨b, rfl, f1⟩⟩
 have hfe : a.eval (.func f) = .func (.func f) #[] #[] := rfl
 simp [execOp, ho, resolve, hfe, e1, Deferred.ofValue, invoke, hc]
theorem andNot_sign {b : Nat} : (BitVec.ofInt 64 (b : Int) &&& ~~~ BitVec.ofInt 64 9223372036854775808).toNat = b % 2 ^ 63 := by
 have h1 : BitVec.ofInt 64 (b : Int) = BitVec.ofNat 64 b := by simp
 have h2 : BitVec.ofInt 64 9223372036854775808 = BitVec.ofNat 64 9223372036854775808 := by decide
 rw [h1, h2]
 apply Nat.eq_of_testBit_eq
 intro i
 have h3 : ~~~ (BitVec.ofNat 64 9223372036854775808) = BitVec.ofNat 64 9223372036854775807 := by decide
 rw [h3]
 simp only [BitVec.toNat_and, BitVec.toNat_ofNat, Nat.testBit_and, Nat.testBit_mod_two_pow]
 rw [show (9223372036854775807 : Nat) = 2 ^ 63 - 1 from rfl, Nat.testBit_two_pow_sub_one]
 by_cases h : i < 63
 ·simp [h, show i < 64 by omega]
 ·simp [h]
theorem LOp.andNot_bt {t ty : TypeId} {x y : Operand} {c : F} (ho : o.op = .binOp .andNot t x y ty) (hx : ev τ x = .bt .f64 .u64 c) (hy : ev τ y = .x (.int .u64 9223372036854775808)) : LOp P o τ (.bt .f64 .u64 (fabs c)) := by
 intro S μ a h
 have h1 := opnd h (x := x) (by simp [ho, Op.operands]) hx
 have h2 := opnd h (x := y) (by simp [ho, Op.operands]) hy
 simp only [V] at h1 h2
 obtain ⟨b, h1, hf⟩ := h1
 have hb : b < 2 ^ 64 := by
  cases c with
  | none => exact hf.1
  | some c => obtain ⟨rfl, h, _⟩ := hf; exact h
 refine ⟨.int .u64 ((b % 2 ^ 63 : Nat) : Int), fun w _ => ?_, by simp only [V]; exact ⟨_, rfl, hf.abs⟩⟩
 have hw : IntKind.u64.wrap ((b % 2 ^ 63 : Nat) : Int) = ((b % 2 ^ 63 : Nat) : Int) := by
  have : b % 2 ^ 63 < 2 ^ 63 := Nat.mod_lt _ (by omega)
  simp only [IntKind.wrap, IntKind.bits, IntKind.signed]
  simp
  omega
 have hk := andNot_sign (b := b)
 have : (Op.intBits .andNot .u64 (b : Int) 9223372036854775808).run P w = .ok (.int .u64 ((b % 2 ^ 63 : Nat) : Int)) w := by
  show Result.ok (Value.int .u64 (IntKind.u64.wrap ((BitVec.ofInt 64 (b : Int) &&& ~~~ BitVec.ofInt 64 9223372036854775808).toNat : Int))) w = _
  rw [hk, hw]
 simp [execOp, ho, h1, h2, eqGuard, binOp, this]
theorem LOp.ffrom {f : FuncId} {k : FloatKind} {ik : IntKind} {x : Operand} {tys : Array TypeId} {c : F} (hc : ∀ (b : Nat) w, (callFunc f #[.int ik b]).run P w = .ok (.value (.float k b)) w) (ho : o.op = .call { callee := .value (.func f), args := #[x], argTypes := tys }) (hx : ev τ x = .bt k ik c) : LOp P o τ (.f k c) := by
 intro S μ a h
 have h1 := opnd h (x := x) (by simp [ho, Op.operands, Call.operands]) hx
 simp only [V] at h1
 obtain ⟨b, e1, f1⟩ := h1
 refine ⟨.float k b, fun w _ => ?_, by simp only [V]; exact ⟨b, rfl, f1⟩⟩
 have hfe : a.eval (.func f) = .func (.func f) #[] #[] := rfl
 simp [execOp, ho, resolve, hfe, e1, Deferred.ofValue, invoke, hc]
end
end Go.AM

namespace Go.AM
section
variable {P : Program} {N : Nat} {all : Array Oper} {o : Oper} {rest : List Oper} {τ τ' : List (Nat × AV)} {Γ Γ' : List Ob} {Q : PQ} {r : AV} {fs : List (Nat × List AV)} {fss : List (List (Nat × List AV))} {bs : List Bool}
theorem ROps.l {d : Nat} (hw : wantT all τ o = some true) (hd : o.dst = some d) (hN : Nat.blt d (N / 2) = true) (hl : LOp P o τ r) (h : ROps P N all rest ((d, r) :: τ) Γ Q) : ROps P N all (o :: rest) τ Γ Q :=
 ROps.op hw (hl.top.rop (by simp only [dstLt, hd]; simpa using hN) (by rw [hd]; exact h))
theorem ROps.d {d : Nat} (hw : wantT all τ o = some true) (hd : o.dst = some d) (hN : Nat.blt d (N / 2) = true) (ht : TOp P o τ Γ r fs) (hΓ : fillOb Γ fs = Γ') (h : ROps P N all rest ((d, r) :: τ) Γ' Q) : ROps P N all (o :: rest) τ Γ Q :=
 ROps.op hw (ht.rop (by simp only [dstLt, hd]; simpa using hN) (by rw [hd, hΓ]; exact h))
theorem ROps.s {d : Nat} (hw : wantT all τ o = some false) (hd : o.dst = some d) (hN : Nat.blt d (N / 2) = true) (h : ROps P N all rest ((d, .x undef) :: τ) Γ Q) : ROps P N all (o :: rest) τ Γ Q :=
 ROps.skip hw (by simp only [dstLt, hd]; simpa using hN) (by rw [hd]; exact h)
theorem TRun.l {d : Nat} (hw : wantT all τ o = some true) (hd : o.dst = some d) (hl : LOp P o τ r) (h : TRun P all Γ rest ((d, r) :: τ) τ' fss bs) : TRun P all Γ (o :: rest) τ τ' ([] :: fss) (false :: bs) :=
 TRun.op hw hl.top (by rw [hd]; exact h)
theorem TRun.d {d : Nat} (hw : wantT all τ o = some true) (hd : o.dst = some d) (ht : TOp P o τ Γ r fs) (h : TRun P all Γ rest ((d, r) :: τ) τ' fss bs) : TRun P all Γ (o :: rest) τ τ' (fs :: fss) (false :: bs) :=
 TRun.op hw ht (by rw [hd]; exact h)
theorem TRun.s {d : Nat} (hw : wantT all τ o = some false) (hd : o.dst = some d) (h : TRun P all Γ rest ((d, .x undef) :: τ) τ' fss bs) : TRun P all Γ (o :: rest) τ τ' ([] :: fss) (false :: bs) :=
 TRun.skip hw (by rw [hd]; exact h)
theorem RunC.region_draw {id : Nat} {l : List Oper} (n : Nat) (hm : P.follows .mixedOrders = true) (ht : TRun P l.toArray Γ (l.take n) τ τ' fss bs) (hn : bs.length = n) (hok : drawOk l.toArray bs = true) (hdst : (l.take n).all (dstLt N) = true) (hfl : fillsOk Γ fss.flatten) (hΓ : fillOb Γ fss.flatten = Γ')
  (h : ROps P N l.toArray (l.drop n) τ' Γ' (np Q)) : RunC P N (.region id l.toArray true) τ Γ Q := RunC.draw n hm ht hn hok hdst hfl (by rw [hΓ]; exact h)
theorem RunC.regionW {id : Nat} {l : List Oper} (h : ROps P N l.toArray l τ Γ Q) : RunC P N (.region id l.toArray false) τ Γ Q := RunC.region h
theorem fills_nil : fillsOk Γ [] := ⟨by simp, by simp⟩
theorem Ev.start {f : FuncId} {fn : Func} {c : Code} {args : List AV} {r : AV} {τ : List (Nat × AV)} (hf : P.funcs[f]? = some fn) (hb : fn.body = some c) (hN : Nat.ble args.length fn.ntmps = true) (k : Nat) (hτ : argClaims 0 args = τ) (hΓ : Γ ++ List.replicate k ⟨0, none⟩ = Γ')
  {Γo : List Ob} {n : Nat} (hn : n / 2 = fn.ntmps) {g : Nat} (hg : Γ.length = g) (hz : n % 2 = 1 → g = 0) (h : RunC P n c τ Γ' (bodyQ P fn g r Γo)) : Ev P f args Γ r Γo := by
 subst hg; subst hτ; subst hΓ
 exact Ev.of_run hf hb (Nat.le_of_ble_eq_true hN) hn hz (RunC.room k h)
end
end Go.AM

namespace Go.AM
section
variable {P : Program} {o : Oper} {τ : List (Nat × AV)} {Γ : List Ob}
theorem LOp.eqb {b b' : Bool} (h : LOp P o τ (.b b)) (e : b = b') : LOp P o τ (.b b') := e ▸ h
theorem TOp.eqb {b b' : Bool} {fs : List (Nat × List AV)} (h : TOp P o τ Γ (.b b) fs) (e : b = b') : TOp P o τ Γ (.b b') fs := e ▸ h
def newNames (ns : List Nat) (Γ : List Ob) : List (Nat × Nat) := ns.map fun p => (p, match Γ[p]? with | some g => g.ver + 1 | none => 0)
theorem TOp.new_core {S : Snap} {μ : List Mu} {Γ2 : List Ob} {w : World} (hw : WI S μ Γ2 w) {S' : Snap} {μ' : List Mu} {w' : World} {ls : List (List AV)} {ns : List Nat}
  (hfr : FrI S [] w S' μ' w') (hw' : WI S' μ' (ls.map fun l => ⟨0, some l⟩) w') (hl0 : ls.all (AV.lts 0) = true) (hlen : ns.length = ls.length) (hnd : ns.Nodup) (hns : ∀ p ∈ ns, ∃ ver, Γ2[p]? = some ⟨ver, none⟩)
  {Sx : Snap} (hx : SExt S Sx) (hxf : SFresh w.heap.size S Sx) (hxs : SnapOK Sx w') (hxS : (∀ b, Sx b = none ∨ Sx b = S' b)) (hVP : ∀ l ∈ ls, ∀ vs, VP S' [] l vs → VP Sx [] l vs) :
  ∃ μ'', MuStep w.heap.size (ns.zip ls) μ μ'' ∧ WI Sx μ'' (fillOb Γ2 (ns.zip ls)) w' ∧ ∀ (i : Nat) (m' : Mu), μ'[i]? = some m' → Shift (sigma (newNames ns Γ2) i).2 (some m') μ''[(sigma (newNames ns Γ2) i).1]? := by
 have hg := hfr.toGrow
 have hl1 : μ'.length = ls.length := by rw [hw'.len]; simp
 have hfst : ((ns.zip ls).map (·.1)) = ns := List.map_fst_zip (by omega)
 -- the new entries
 let μ'' : List Mu := (ns.zip μ').foldl (fun μ p => μ.set p.1 { p.2 with ver := p.2.ver + (match Γ2[p.1]? with | some g => g.ver + 1 | none => 0) }) μ
 have hzip : ((ns.zip μ').map fun p => p.1) = ns := List.map_fst_zip (by omega)
 have hlt : ∀ p ∈ ns, p < μ.length := by
  intro p hp
  obtain ⟨ver, h⟩ := hns p hp
  rw [hw.len]; exact lt_of_getElem? h
 have hat : ∀ (i p : Nat) (m' : Mu), ns[i]? = some p → μ'[i]? = some m' → μ''[p]? = some { m' with ver := m'.ver + (match Γ2[p]? with | some g => g.ver + 1 | none => 0) } := by
  intro i p m' hp hm'
  have hz : (ns.zip μ')[i]? = some (p, m') := by rw [List.getElem?_zip_eq_some]; exact ⟨hp, hm'⟩
  exact foldl_set_at (f := fun p : Nat × Mu => p.1) (g := fun p => ({ p.2 with ver := p.2.ver + (match Γ2[p.1]? with | some g => g.ver + 1 | none => 0) } : Mu)) (by rw [hzip]; exact hnd) hz (hlt p (List.mem_of_getElem? hp))
 have hnot : ∀ i : Nat, i ∉ ns → μ''[i]? = μ[i]? := by
  intro i hi
  exact foldl_set_ne fun p hp e => hi (by rw [← e]; exact (List.of_mem_zip hp).1)
 have hmver : ∀ (i : Nat) (m' : Mu), μ'[i]? = some m' → m'.ver = 0 := by
  intro i m' hm'
  obtain ⟨l, hl⟩ := getElem?_of_lt (l := ls) (i := i) (by rw [← hl1]; exact lt_of_getElem? hm')
  exact hw'.ver i ⟨0, some l⟩ m' (by rw [List.getElem?_map, hl]; rfl) hm'
 have hidx : ∀ p, p ∈ ns → ∃ i, ns[i]? = some p := fun p hp => by
  obtain ⟨i, hi, e⟩ := List.mem_iff_getElem.1 hp
  exact ⟨i, by rw [List.getElem?_eq_getElem hi, e]⟩
 have hμ'at : ∀ (i p : Nat), ns[i]? = some p → ∃ m', μ'[i]? = some m' := fun i p hp => getElem?_of_lt (by rw [hl1, ← hlen]; exact lt_of_getElem? hp)
 have hnewblk : ∀ (i : Nat) (m' : Mu) (b : Nat), μ'[i]? = some m' → m'.blk = some b → w.heap.size ≤ b := by
  intro i m' b hm' hb
  rcases hfr.new i m' b hm' hb with ⟨m0, h0, _⟩ | h
  ·simp at h0
  ·exact h
 have hM : MuLe w.heap.size μ μ'' := by
  intro i m hm
  by_cases hi : i ∈ ns
  ·obtain ⟨j, hj⟩ := hidx i hi
   obtain ⟨m', hm'⟩ := hμ'at j i hj
   obtain ⟨ver, hv⟩ := hns i hi
   have := hw.ver i _ m hv hm
   refine ⟨_, hat j i m' hj hm', ?_⟩
   simp only [hv]
   replace this : m.ver = ver := this
   exact ⟨by show m.ver ≤ m'.ver + (ver + 1); omega, fun e => by replace e : m'.ver + (ver + 1) = m.ver := e; omega, fun b hb => .inr (hnewblk j m' b hm' hb)⟩
  ·exact ⟨m, by rw [hnot i hi]; exact hm, Nat.le_refl _, fun _ => rfl, fun _ hb => .inl hb⟩
 refine ⟨μ'', ⟨hM, fun i hi => hnot i fun hin => ?_, fun i m b hm hb => ?_⟩, ?_, ?_⟩
 ·obtain ⟨j, hj⟩ := hidx i hin
  obtain ⟨l, hl⟩ := getElem?_of_lt (l := ls) (i := j) (by rw [← hlen]; exact lt_of_getElem? hj)
  exact hi (i, l) (List.mem_of_getElem? (i := j) (by rw [List.getElem?_zip_eq_some]; exact ⟨hj, hl⟩)) rfl
 ·by_cases hi : i ∈ ns
  ·obtain ⟨j, hj⟩ := hidx i hi
   obtain ⟨m', hm'⟩ := hμ'at j i hj
   rw [hat j i m' hj hm'] at hm
   simp at hm; subst hm
   exact .inr (hnewblk j m' b hm' hb)
  ·rw [hnot i hi] at hm; exact .inl hm
 ·have hstay : ∀ (i ver : Nat) (l : List AV) (m : Mu) (b : Nat), Γ2[i]? = some ⟨ver, some l⟩ → μ[i]? = some m → m.blk = some b → b < w.heap.size ∧ w'.heap[b]? = w.heap[b]? ∧ Sx b = none := by
   intro i ver l m b hgi hm hb
   obtain ⟨cs, T, e1, e2, e3, e4⟩ := own_any hw hgi hm hb
   have hlt := (Array.getElem?_eq_some_iff.1 e1).1
   refine ⟨hlt, hg.block b hlt, ?_⟩
   cases hs : Sx b with
   | none => rfl
   | some c =>
    rcases hxf b c hs with h | h
    ·rw [e4] at h; cases h
    ·omega
  have hfillat : ∀ (j p : Nat) (l : List AV) (ver : Nat), ns[j]? = some p → ls[j]? = some l → Γ2[p]? = some ⟨ver, none⟩ → (fillOb Γ2 (ns.zip ls))[p]? = some ⟨ver + 1, some l⟩ := by
   intro j p l ver hp hl hv
   have := fillOb_at (Γ := Γ2) (f := (p, l)) (by rw [hfst]; exact hnd) (List.mem_of_getElem? (i := j) (by rw [List.getElem?_zip_eq_some]; exact ⟨hp, hl⟩))
   simpa [hv] using this
  have hfillne : ∀ i, i ∉ ns → (fillOb Γ2 (ns.zip ls))[i]? = Γ2[i]? := fun i hi => fillOb_ne fun f hf e => hi (by rw [← e]; exact (List.of_mem_zip hf).1)
  have hlat : ∀ (j p : Nat), ns[j]? = some p → ∃ l, ls[j]? = some l := fun j p hp => getElem?_of_lt (by rw [← hlen]; exact lt_of_getElem? hp)
  refine ⟨hxs, ?_, ?_, ?_, ?_⟩
  ·rw [fillOb_length, ← hw.len]; exact foldl_set_length
  ·intro i g m hgi hm
   by_cases hi : i ∈ ns
   ·obtain ⟨j, hj⟩ := hidx i hi
    obtain ⟨m', hm'⟩ := hμ'at j i hj
    obtain ⟨l, hl⟩ := hlat j i hj
    obtain ⟨ver, hv⟩ := hns i hi
    rw [hat j i m' hj hm'] at hm
    rw [hfillat j i l ver hj hl hv] at hgi
    simp only [hv, Option.some.injEq] at hm hgi
    subst hm; subst hgi
    have := hmver j m' hm'
    show m'.ver + (ver + 1) = ver + 1; omega
   ·rw [hnot i hi] at hm; rw [hfillne i hi] at hgi; exact hw.ver i g m hgi hm
  ·intro i ver l m hgi hm
   by_cases hi : i ∈ ns
   ·obtain ⟨j, hj⟩ := hidx i hi
    obtain ⟨m', hm'⟩ := hμ'at j i hj
    obtain ⟨l', hl'⟩ := hlat j i hj
    obtain ⟨ver', hv⟩ := hns i hi
    rw [hat j i m' hj hm'] at hm
    rw [hfillat j i l' ver' hj hl' hv] at hgi
    simp only [Option.some.injEq] at hm hgi
    subst hm
    injection hgi with _ h2
    simp only [Option.some.injEq] at h2
    subst h2
    have h0 := hw'.own j 0 l' m' (by rw [List.getElem?_map, hl']; rfl) hm'
    have hlts : AV.lts 0 l' = true := List.all_eq_true.1 hl0 l' (List.mem_of_getElem? hl')
    unfold OwnAt at h0 ⊢
    simp only
    split at h0
    ·exact h0
    ·rename_i b hb
     obtain ⟨k1, cs, T, k2, k3, k4⟩ := h0
     refine ⟨?_, cs, T, k2, k3, ?_⟩
     ·rcases hxS b with h | h
      ·exact h
      ·rw [h]; exact k1
     ·have h1 : VP S' [] l' cs.toList := by
       have := k4
       exact VP.unren (σ := fun i => (i, 0)) (k := 0) (μ := μ') (fun i hi => by omega) l' _ hlts (by rw [AV.rens_of_lt0 _ _ hlts]; exact this)
      have h2 := hVP l' (List.mem_of_getElem? hl') _ h1
      exact VP.unren (σ := fun i => (i, 0)) (k := 0) (μ := []) (fun i hi => by omega) l' _ hlts (by rw [AV.rens_of_lt0 _ _ hlts]; exact h2)
   ·rw [hnot i hi] at hm; rw [hfillne i hi] at hgi
    have h0 := hw.own i ver l m hgi hm
    unfold OwnAt at h0 ⊢
    split at h0
    ·exact h0
    ·rename_i b hb
     obtain ⟨k1, k2, k3⟩ := hstay i ver l m b hgi hm hb
     obtain ⟨_, cs, T, e1, e2, e3⟩ := h0
     exact ⟨k3, cs, T, k2.trans e1, e2, VP.mono hx hM l _ e3⟩
  ·intro i i' g g' m m' b hgi hs hgi' hs' hm hm' hb hb'
   by_cases hi : i ∈ ns
   ·obtain ⟨j, hj⟩ := hidx i hi
    obtain ⟨m1, hm1⟩ := hμ'at j i hj
    rw [hat j i m1 hj hm1] at hm; simp only [Option.some.injEq] at hm; subst hm
    have k1 := hnewblk j m1 b hm1 hb
    by_cases hi' : i' ∈ ns
    ·obtain ⟨j', hj'⟩ := hidx i' hi'
     obtain ⟨m1', hm1'⟩ := hμ'at j' i' hj'
     rw [hat j' i' m1' hj' hm1'] at hm'; simp only [Option.some.injEq] at hm'; subst hm'
     obtain ⟨l1, hl1'⟩ := hlat j i hj
     obtain ⟨l2, hl2'⟩ := hlat j' i' hj'
     have : j = j' := hw'.sep j j' ⟨0, some l1⟩ ⟨0, some l2⟩ m1 m1' b (by rw [List.getElem?_map, hl1']; rfl) rfl (by rw [List.getElem?_map, hl2']; rfl) rfl hm1 hm1' hb hb'
     subst this
     rw [hj] at hj'; simpa using hj'
    ·rw [hnot i' hi'] at hm'; rw [hfillne i' hi'] at hgi'
     obtain ⟨gv, gc⟩ := g'
     obtain ⟨l, rfl⟩ := Option.isSome_iff_exists.1 hs'
     have := (hstay i' gv l m' b hgi' hm' hb').1
     omega
   ·rw [hnot i hi] at hm; rw [hfillne i hi] at hgi
    obtain ⟨gv, gc⟩ := g
    obtain ⟨l, rfl⟩ := Option.isSome_iff_exists.1 hs
    have k1 := (hstay i gv l m b hgi hm hb).1
    by_cases hi' : i' ∈ ns
    ·obtain ⟨j', hj'⟩ := hidx i' hi'
     obtain ⟨m1', hm1'⟩ := hμ'at j' i' hj'
     rw [hat j' i' m1' hj' hm1'] at hm'; simp only [Option.some.injEq] at hm'; subst hm'
     have := hnewblk j' m1' b hm1' hb'
     omega
    ·rw [hnot i' hi'] at hm'; rw [hfillne i' hi'] at hgi'
     exact hw.sep i i' _ g' m m' b hgi hs hgi' hs' hm hm' hb hb'
 ·intro i m' hm'
  obtain ⟨p, hp⟩ : ∃ p, ns[i]? = some p := getElem?_of_lt (by rw [hlen, ← hl1]; exact lt_of_getElem? hm')
  obtain ⟨ver, hv⟩ := hns p (List.mem_of_getElem? hp)
  have : sigma (newNames ns Γ2) i = (p, ver + 1) := by simp [sigma, List.getD, newNames, hp, hv]
  rw [this, hat i p m' hp hm', hv]
  exact ⟨by simp, by simp⟩
theorem newNames_live {Γ Γ2 : List Ob} {ns : List Nat} {ls : List (List AV)} (hlen : ns.length = ls.length) (hd : ∀ f ∈ ns.zip ls, Γ2[f.1]? = Γ[f.1]?) : newNames ns Γ2 = newNames ns Γ := by
 apply List.map_congr_left
 intro p hp
 obtain ⟨i, hi, e⟩ := List.mem_iff_getElem.1 hp
 have : (p, ls[i]'(by omega)) ∈ ns.zip ls := List.mem_of_getElem? (i := i) (by rw [List.getElem?_zip_eq_some]; exact ⟨by rw [List.getElem?_eq_getElem hi, e], List.getElem?_eq_getElem (by omega)⟩)
 rw [hd _ this]
theorem TOp.callBN {f : FuncId} {A A' : List AV} {r : AV} {ls : List (List AV)} (ns : List Nat) (hc : CallAs P o τ f A) (hA : Bors Γ A A') (hs : r.nos = true) (hev : Ev P f A' [] r (ls.map fun l => ⟨0, some l⟩)) (hl0 : ls.all (AV.lts 0) = true) (hls : ls.all AV.noss = true) (hlen : ns.length = ls.length) (hnd : ns.Nodup) (hns : ∀ p ∈ ns, ∃ ver, Γ[p]? = some ⟨ver, none⟩) :
  TOp P o τ Γ (r.ren (sigma (newNames ns Γ))) (ns.zip ls) := by
 intro S μ Γ2 a w hL hd hw h next Q hn
 obtain ⟨vs, hrun, hvs⟩ := hc S μ a w h
 unfold Oper.wp
 rw [hrun, Oper.upon_enter]
 have hle := lend_lent hw
 refine (hev (lend S μ Γ2 w) [] w vs (lend_snap hw) (hA S μ Γ2 w _ vs.toList hL hw hle hvs)).mono ?_
 rintro e w' ⟨v, S', μ', rfl, hv, hw', hfr⟩
 have hg := hfr.toGrow
 have hns2 : ∀ p ∈ ns, ∃ ver, Γ2[p]? = some ⟨ver, none⟩ := by
  intro p hp
  obtain ⟨i, hi, e⟩ := List.mem_iff_getElem.1 hp
  have : (p, ls[i]'(by omega)) ∈ ns.zip ls := List.mem_of_getElem? (i := i) (by rw [List.getElem?_zip_eq_some]; exact ⟨by rw [List.getElem?_eq_getElem hi, e], List.getElem?_eq_getElem (by omega)⟩)
  rw [hd _ this]; exact hns p hp
 -- back to what was settled ahead of the call
 have hw0 : WI S' μ' (ls.map fun l => (⟨0, some l⟩ : Ob)) w' := hw'
 have hfr0 : FrI S [] w S' μ' w' ∨ True := .inr trivial
 have hfrS : FrI S [] w S μ' w' :=
  ⟨fun b c hb => hb, hfr.le, hfr.new, hfr.keep, hfr.size, hfr.os, hfr.tape, hfr.output, fun b c hb => .inl hb⟩
 have hwS : WI S μ' (ls.map fun l => (⟨0, some l⟩ : Ob)) w' := by
  refine ⟨fun b c hb => (hw.snap b c hb).elim fun T hT => hT.elim fun m hm => ⟨T, m, (hg.block b (snap_lt hw.snap hb)).trans hm⟩, hw'.len, hw'.ver, fun p ver l m hp hm => ?_, hw'.sep⟩
  have h0 := hw'.own p ver l m hp hm
  obtain ⟨l', hl', e⟩ : ∃ l', ls[p]? = some l' ∧ l' = l := by
   rw [List.getElem?_map] at hp
   cases hq : ls[p]? with
   | none => rw [hq] at hp; simp at hp
   | some l' => rw [hq] at hp; simp at hp; exact ⟨l', rfl, hp.2⟩
  subst e
  have hno : AV.noss l' = true := List.all_eq_true.1 hls l' (List.mem_of_getElem? hl')
  unfold OwnAt at h0 ⊢
  split at h0
  ·exact h0
  ·rename_i b hb
   obtain ⟨k1, cs, T, k2, k3, k4⟩ := h0
   refine ⟨?_, cs, T, k2, k3, VP.noS hno k4⟩
   cases hsb : S b with
   | none => rfl
   | some c =>
    have := (hle.ext.trans hfr.ext) b c hsb
    rw [k1] at this; cases this
 obtain ⟨μ'', h1, h2, h3⟩ := TOp.new_core hw hfrS hwS hl0 hlen hnd hns2 (SExt.refl S) (SFresh.refl _ S) hwS.snap (fun b => .inr rfl) (fun _ _ _ h => h)
 rw [newNames_live hlen hd] at h3
 exact hn S μ'' v w' (SExt.refl S) (SFresh.refl _ S) h1 h2 (V.ren h3 r v (V.noS r v hs hv)) hg
end
end Go.AM

namespace Go.AM
def obind {α β : Type} (x : Option α) (k : α → Option β) : Option β := x.bind k
def obind2 {α β γ : Type} (x : Option (α × β)) (k : α → β → Option γ) : Option γ := x.bind fun y => k y.1 y.2
def obind3 {α β γ δ : Type} (x : Option (α × β × γ)) (k : α → β → γ → Option δ) : Option δ := x.bind fun y => k y.1 y.2.1 y.2.2
def obind4 {α β γ δ ε : Type} (x : Option (α × β × γ × δ)) (k : α → β → γ → δ → Option ε) : Option ε := x.bind fun y => k y.1 y.2.1 y.2.2.1 y.2.2.2
def obind5 {α β γ δ ε ζ : Type} (x : Option (α × β × γ × δ × ε)) (k : α → β → γ → δ → ε → Option ζ) : Option ζ := x.bind fun y => k y.1 y.2.1 y.2.2.1 y.2.2.2.1 y.2.2.2.2
def obind6 {α β γ δ ε ζ η : Type} (x : Option (α × β × γ × δ × ε × ζ)) (k : α → β → γ → δ → ε → ζ → Option η) : Option η := x.bind fun y => k y.1 y.2.1 y.2.2.1 y.2.2.2.1 y.2.2.2.2.1 y.2.2.2.2.2
def obind7 {α β γ δ ε ζ η θ : Type} (x : Option (α × β × γ × δ × ε × ζ × η)) (k : α → β → γ → δ → ε → ζ → η → Option θ) : Option θ := x.bind fun y => k y.1 y.2.1 y.2.2.1 y.2.2.2.1 y.2.2.2.2.1 y.2.2.2.2.2.1 y.2.2.2.2.2.2
def obind8 {α β γ δ ε ζ η θ ι : Type} (x : Option (α × β × γ × δ × ε × ζ × η × θ)) (k : α → β → γ → δ → ε → ζ → η → θ → Option ι) : Option ι := x.bind fun y => k y.1 y.2.1 y.2.2.1 y.2.2.2.1 y.2.2.2.2.1 y.2.2.2.2.2.1 y.2.2.2.2.2.2.1 y.2.2.2.2.2.2.2
theorem obind_some {α β : Type} {x : Option α} {k : α → Option β} {r : β} (h : obind x k = some r) : ∃ a, x = some a ∧ k a = some r := Option.bind_eq_some_iff.1 h
theorem obind2_some {α β γ : Type} {x : Option (α × β)} {k : α → β → Option γ} {r : γ} (h : obind2 x k = some r) : ∃ a b, x = some (a, b) ∧ k a b = some r := by
 obtain ⟨⟨a, b⟩, h1, h2⟩ := Option.bind_eq_some_iff.1 h; exact ⟨a, b, h1, h2⟩
theorem obind3_some {α β γ δ : Type} {x : Option (α × β × γ)} {k : α → β → γ → Option δ} {r : δ} (h : obind3 x k = some r) : ∃ a b c, x = some (a, b, c) ∧ k a b c = some r := by
 obtain ⟨⟨a, b, c⟩, h1, h2⟩ := Option.bind_eq_some_iff.1 h; exact ⟨a, b, c, h1, h2⟩
theorem obind4_some {α β γ δ ε : Type} {x : Option (α × β × γ × δ)} {k : α → β → γ → δ → Option ε} {r : ε} (h : obind4 x k = some r) : ∃ a b c d, x = some (a, b, c, d) ∧ k a b c d = some r := by
 obtain ⟨⟨a, b, c, d⟩, h1, h2⟩ := Option.bind_eq_some_iff.1 h; exact ⟨a, b, c, d, h1, h2⟩
@[simp] theorem obind_none {α β : Type} (k : α → Option β) : obind none k = none := rfl
@[simp] theorem obind_eq {α β : Type} (a : α) (k : α → Option β) : obind (some a) k = k a := rfl
@[simp] theorem obind2_eq {α β γ : Type} (a : α) (b : β) (k : α → β → Option γ) : obind2 (some (a, b)) k = k a b := rfl
@[simp] theorem obind3_eq {α β γ δ : Type} (a : α) (b : β) (c : γ) (k : α → β → γ → Option δ) : obind3 (some (a, b, c)) k = k a b c := rfl
@[simp] theorem obind4_eq {α β γ δ ε : Type} (a : α) (b : β) (c : γ) (d : δ) (k : α → β → γ → δ → Option ε) : obind4 (some (a, b, c, d)) k = k a b c d := rfl
@[simp] theorem obind5_eq {α β γ δ ε ζ : Type} (a : α) (b : β) (c : γ) (d : δ) (e : ε) (k : α → β → γ → δ → ε → Option ζ) : obind5 (some (a, b, c, d, e)) k = k a b c d e := rfl
@[simp] theorem obind6_eq {α β γ δ ε ζ η : Type} (a : α) (b : β) (c : γ) (d : δ) (e : ε) (f : ζ) (k : α → β → γ → δ → ε → ζ → Option η) : obind6 (some (a, b, c, d, e, f)) k = k a b c d e f := rfl
@[simp] theorem obind7_eq {α β γ δ ε ζ η θ : Type} (a : α) (b : β) (c : γ) (d : δ) (e : ε) (f : ζ) (g : η) (k : α → β → γ → δ → ε → ζ → η → Option θ) : obind7 (some (a, b, c, d, e, f, g)) k = k a b c d e f g := rfl
@[simp] theorem obind8_eq {α β γ δ ε ζ η θ ι : Type} (a : α) (b : β) (c : γ) (d : δ) (e : ε) (f : ζ) (g : η) (i : θ) (k : α → β → γ → δ → ε → ζ → η → θ → Option ι) : obind8 (some (a, b, c, d, e, f, g, i)) k = k a b c d e f g i := rfl
def bsel {α : Type} (c : Bool) (x y : Option α) : Option α := cond c x y
theorem bsel_some {α : Type} {c : Bool} {x y : Option α} {r : α} (h : bsel c x y = some r) : (c = true ∧ x = some r) ∨ (c = false ∧ y = some r) := by
 cases c
 ·exact .inr ⟨rfl, h⟩
 ·exact .inl ⟨rfl, h⟩
@[simp] theorem bsel_true {α : Type} (x y : Option α) : bsel true x y = x := rfl
@[simp] theorem bsel_false {α : Type} (x y : Option α) : bsel false x y = y := rfl
theorem bsel_if {α : Type} (c : Bool) (x y : Option α) : bsel c x y = if c = true then x else y := by cases c <;> rfl
def olet {α β : Type} (a : α) (k : α → Option β) : Option β := k a
theorem olet_some {α β : Type} {a : α} {k : α → Option β} {r : β} (h : olet a k = some r) : ∃ x, a = x ∧ k x = some r := ⟨a, rfl, h⟩
@[simp] theorem olet_eq {α β : Type} (a : α) (k : α → Option β) : olet a k = k a := rfl
def need {α : Type} (c : Bool) (x : Option α) : Option α := cond c x none
theorem need_some {α : Type} {c : Bool} {x : Option α} {r : α} (h : need c x = some r) : c = true ∧ x = some r := by
 cases c
 ·cases h
 ·exact ⟨rfl, h⟩
@[simp] theorem need_true {α : Type} (x : Option α) : need true x = x := rfl
@[simp] theorem need_false {α : Type} (x : Option α) : need false x = none := rfl
def osum {ε ρ α : Type} (x : ε ⊕ ρ) (k : ε → Option α) (j : ρ → Option α) : Option α := match x with
 | .inl e => k e
 | .inr r => j r
@[simp] theorem osum_inl {ε ρ α : Type} (e : ε) (k : ε → Option α) (j : ρ → Option α) : osum (.inl e) k j = k e := rfl
@[simp] theorem osum_inr {ε ρ α : Type} (r : ρ) (k : ε → Option α) (j : ρ → Option α) : osum (.inr r) k j = j r := rfl
inductive LR (σ ε ρ : Type) where
 | next (s : σ)
 | out (e : ε)
 | ret (r : ρ)
def iter {σ ε ρ : Type} (step : σ → Option (LR σ ε ρ)) : Nat → σ → Option (ε ⊕ ρ)
 | 0, _ => none
 | n + 1, s => match step s with
  | none => none
  | some (.next s') => iter step n s'
  | some (.out e) => some (.inl e)
  | some (.ret r) => some (.inr r)
theorem iter_det {σ ε ρ : Type} {step : σ → Option (LR σ ε ρ)} : ∀ {n m : Nat} {s : σ} {x y : ε ⊕ ρ}, iter step n s = some x → iter step m s = some y → x = y
 | 0, _, _, _, _, h, _ => by simp [iter] at h
 | _ + 1, 0, _, _, _, _, h => by simp [iter] at h
 | n + 1, m + 1, s, x, y, h, k => by
  simp only [iter] at h k
  split at h
  ·cases h
  ·rename_i e; rw [e] at k; exact iter_det h k
  ·rename_i e; rw [e] at k; rw [← Option.some.inj h, ← Option.some.inj k]
  ·rename_i e; rw [e] at k; rw [← Option.some.inj h, ← Option.some.inj k]
open Classical in
noncomputable def loopM {σ ε ρ : Type} (step : σ → Option (LR σ ε ρ)) (s : σ) : Option (ε ⊕ ρ) :=
 if h : ∃ x, ∃ n, iter step n s = some x then some h.choose else none
theorem loopM_iff {σ ε ρ : Type} {step : σ → Option (LR σ ε ρ)} {s : σ} {x : ε ⊕ ρ} : loopM step s = some x ↔ ∃ n, iter step n s = some x := by
 unfold loopM
 constructor
 ·intro h
  split at h
  ·rename_i hex
   obtain ⟨n, hn⟩ := hex.choose_spec
   rw [← Option.some.inj h]; exact ⟨n, hn⟩
  ·cases h
 ·rintro ⟨n, hn⟩
  have hex : ∃ x, ∃ n, iter step n s = some x := ⟨x, n, hn⟩
  rw [dif_pos hex]
  obtain ⟨m, hm⟩ := hex.choose_spec
  rw [iter_det hm hn]
theorem loopM_next {σ ε ρ : Type} {step : σ → Option (LR σ ε ρ)} {s s' : σ} (h : step s = some (.next s')) : loopM step s = loopM step s' := by
 apply Option.ext
 intro x
 rw [loopM_iff, loopM_iff]
 constructor
 ·rintro ⟨n, hn⟩
  cases n with
  | zero => simp [iter] at hn
  | succ n => simp only [iter, h] at hn; exact ⟨n, hn⟩
 ·rintro ⟨n, hn⟩
  exact ⟨n + 1, by simp only [iter, h]; exact hn⟩
theorem loopM_out {σ ε ρ : Type} {step : σ → Option (LR σ ε ρ)} {s : σ} {e : ε} (h : step s = some (.out e)) : loopM step s = some (.inl e) := by
 rw [loopM_iff]; exact ⟨1, by simp only [iter, h]⟩
theorem loopM_ret {σ ε ρ : Type} {step : σ → Option (LR σ ε ρ)} {s : σ} {r : ρ} (h : step s = some (.ret r)) : loopM step s = some (.inr r) := by
 rw [loopM_iff]; exact ⟨1, by simp only [iter, h]⟩
def at? {α : Type} (l : List α) (i : Int) : Option α := if 0 ≤ i then l[i.toNat]? else none
theorem at?_spec {α : Type} {l : List α} {i : Int} {a : α} (h : at? l i = some a) : 0 ≤ i ∧ i.toNat < l.length ∧ l[i.toNat]? = some a := by
 unfold at? at h
 split at h
 ·rename_i h0; exact ⟨h0, lt_of_getElem? h, h⟩
 ·cases h
def setAt? {α : Type} (l : List α) (i : Int) (a : α) : Option (List α) := if 0 ≤ i ∧ i.toNat < l.length then some (l.set i.toNat a) else none
theorem setAt?_spec {α : Type} {l l' : List α} {i : Int} {a : α} (h : setAt? l i a = some l') : 0 ≤ i ∧ i.toNat < l.length ∧ l' = l.set i.toNat a := by
 unfold setAt? at h
 split at h
 ·rename_i h0; exact ⟨h0.1, h0.2, (Option.some.inj h).symm⟩
 ·cases h
theorem setAt?_len {α : Type} {l l' : List α} {i : Int} {a : α} (h : setAt? l i a = some l') : l'.length = l.length := by
 obtain ⟨_, _, rfl⟩ := setAt?_spec h; simp
section
variable {P : Program} {N : Nat} {o : Oper} {τ : List (Nat × AV)} {Γ : List Ob} {Q : PQ}
theorem LOp.eqr {r r' : AV} (h : LOp P o τ r) (e : r = r') : LOp P o τ r' := e ▸ h
theorem TOp.eqr {r r' : AV} {fs : List (Nat × List AV)} (h : TOp P o τ Γ r fs) (e : r = r') : TOp P o τ Γ r' fs := e ▸ h
theorem RunC.cut {c : Code} {K : List (Nat × AV) → List Ob → Prop} (Mid : List (Nat × AV) → List Ob → Prop) (h1 : RunC P N c τ Γ (thenQ Mid Q)) (h2 : ∀ τ Γ, Mid τ Γ → K τ Γ) : RunC P N c τ Γ (thenQ K Q) := by
 refine h1.mono fun e τ Γ h => ?_
 cases e <;> first | exact h2 τ Γ h | exact h
theorem RunL.loopM {c : Code} {σ ε ρ : Type} {x : ε ⊕ ρ} (step : σ → Option (LR σ ε ρ)) (Fit : σ → List (Nat × AV) → List Ob → Prop)
  (h : ∀ s τ Γ y, Fit s τ Γ → step s = some y → (∀ e, y = .out e → x = .inl e) → (∀ r, y = .ret r → x = .inr r) → RunC P N c τ Γ (thenQ (fun τ Γ => ∃ s', y = .next s' ∧ Fit s' τ Γ) Q)) :
  ∀ s τ Γ, AM.loopM step s = some x → Fit s τ Γ → RunL P N c τ Γ Q := by
 have key : ∀ (n : Nat) (s : σ) (τ : List (Nat × AV)) (Γ : List Ob), iter step n s = some x → Fit s τ Γ → RunL P N c τ Γ Q := by
  intro n
  induction n with
  | zero => intro s τ Γ hn; simp [iter] at hn
  | succ n ih =>
   intro s τ Γ hn hf
   simp only [iter] at hn
   split at hn
   ·cases hn
   ·rename_i s' e
    refine RunL.step (RunC.cut _ (h s τ Γ _ hf e (fun _ h => by cases h) (fun _ h => by cases h)) ?_)
    rintro τ' Γ' ⟨s'', e', hf'⟩
    cases e'
    exact ih s' τ' Γ' hn hf'
   ·rename_i e1 e
    refine RunL.step (RunC.cut _ (h s τ Γ _ hf e (fun e2 h => by cases h; exact (Option.some.inj hn).symm) (fun _ h => by cases h)) ?_)
    rintro τ' Γ' ⟨s'', e', hf'⟩
    cases e'
   ·rename_i e1 e
    refine RunL.step (RunC.cut _ (h s τ Γ _ hf e (fun _ h => by cases h) (fun e2 h => by cases h; exact (Option.some.inj hn).symm)) ?_)
    rintro τ' Γ' ⟨s'', e', hf'⟩
    cases e'
 intro s τ Γ hl hf
 obtain ⟨n, hn⟩ := loopM_iff.1 hl
 exact key n s τ Γ hn hf
theorem lts0_map {α : Type} {f : α → AV} (hf : ∀ x, (f x).lt 0 = true) (l : List α) : AV.lts 0 (l.map f) = true := by
 induction l with
 | nil => rfl
 | cons a l ih => simp [AV.lts, hf, ih]
theorem noss_map {α : Type} {f : α → AV} (hf : ∀ x, (f x).nos = true) (l : List α) : AV.noss (l.map f) = true := by
 induction l with
 | nil => rfl
 | cons a l ih => simp [AV.noss, hf, ih]
theorem and_all {α : Type} {p : α → Bool} {a : α} {l : List α} (h : p a = true) (k : l.all p = true) : (a :: l).all p = true := by simp [h]; simpa using k
theorem LOp.ix {α : Type} {f : α → AV} {l : List α} {y : α} {t e : TypeId} {x ix : Operand} {k : IntKind} {i : Int} {n : Nat} (ht : ∀ w, (underlying t).run P w = .ok (.slice e) w) (he : ∀ w, (sizeOf e).run P w = .ok 1 w)
  (ho : o.op = .indexAddr t x ix) (hx : ev τ x = .sl n (l.map f)) (hn : l.length = n) (hi : ev τ ix = .x (.int k i)) (hy : at? l i = some y) : LOp P o τ (.ptr (f y :: (l.map f).drop (i.toNat + 1))) := by
 obtain ⟨h0, h1, h2⟩ := at?_spec hy
 refine LOp.indexAddr_sl ht he ho hx hi h0 (by omega) (fun e => by rw [List.map_eq_nil_iff] at e; subst e; simp at h1) ?_
 rw [List.drop_eq_getElem_cons (by simpa using h1)]
 congr 1
 rw [List.getElem?_eq_getElem h1] at h2
 rw [List.getElem_map, Option.some.inj h2]
end
end Go.AM

namespace Go.AM
section
variable {P : Program} {N : Nat} {o : Oper} {τ : List (Nat × AV)} {Γ : List Ob} {Q : PQ}
def ALe (a b : AV) : Prop := ∀ S μ v, V S μ a v → V S μ b v
theorem ALe.refl (a : AV) : ALe a a := fun _ _ _ h => h
theorem ALe.fl {k : FloatKind} {b : Nat} (hb : Nat.blt b (2 ^ k.format.width) = true) (hn : (k.format.read b).isNaN = false) : ALe (.x (.float k b)) (.f k (some b)) := by
 intro S μ v h
 simp only [V] at h ⊢
 exact ⟨b, h, rfl, by simpa using hb, hn⟩
theorem ALe.ptr {a : AV} {l : List AV} : ALe (.ptr (a :: l)) (.ptr [a]) := by
 intro S μ v hv
 simp only [V] at hv ⊢
 obtain ⟨b, off, cs, h1, h2, h3⟩ := hv
 exact ⟨b, off, cs, h1, h2, by simpa using h3.take 1⟩
theorem LOp.le {r r' : AV} (h : LOp P o τ r) (e : ALe r r') : LOp P o τ r' := fun S μ a hx => (h S μ a hx).elim fun v hv => ⟨v, hv.1, e S μ v hv.2⟩
theorem Bor.sl {α : Type} {f : α → AV} (hf : ∀ x, (f x).lt 0 = true) {n : Nat} {l : List α} : Bor Γ (.sl n (l.map f)) (.sl n (l.map f)) := Bor.pure (lts0_map hf l)
theorem Bor.own {α : Type} {f : α → AV} (hf : ∀ x, (f x).lt 0 = true) {p ver n : Nat} {l : List α} (hp : Γ[p]? = some ⟨ver, some (l.map f)⟩) (hn : l.length = n) : Bor Γ (.oref p ver 0 n) (.sl l.length (l.map f)) := by
 subst hn
 exact Bor.oref hp (Bors.pure (lts0_map hf l)).p (by simp)
def ALes : List AV → List AV → Prop
 | [], [] => True
 | a :: l, b :: m => ALe a b ∧ ALes l m
 | _, _ => False
theorem ALes.vl : ∀ {l m : List AV}, ALes l m → ∀ {S : Snap} {μ : List Mu} {vs : List Value}, VL S μ l vs → VL S μ m vs
 | [], [], _, _, _, _, h => h
 | a :: l, b :: m, k, S, μ, vs, h => by
  cases vs with
  | nil => simp only [VL] at h
  | cons v vs =>
   simp only [VL] at h ⊢
   exact ⟨k.1 _ _ _ h.1, ALes.vl k.2 h.2⟩
 | [], _ :: _, k, _, _, _, _ => k.elim
 | _ :: _, [], k, _, _, _, _ => k.elim
def fillA (place : Nat → Option (Nat × Nat)) : List AV → List (Nat × List AV) → Option (List AV)
 | cells, [] => some cells
 | cells, (i, l) :: rest => match place i with
  | none => none
  | some (off, size) => if l.length = size ∧ off + l.length ≤ cells.length then fillA place (overlay cells off l) rest else none
def PartsOk (τ : List (Nat × AV)) : List (Nat × Operand) → List (Nat × List AV) → Prop
 | [], [] => True
 | (i, x) :: ps, (j, l) :: qs => i = j ∧ (∃ a, ALe (ev τ x) a ∧ a.cells? = some l) ∧ PartsOk τ ps qs
 | _, _ => False
theorem overlay_foldl {α : Type} (m : List α) : ∀ (k off : Nat) (cs : Array α), off + k + m.length ≤ cs.size →
  ((m.zipIdx k).foldl (fun cs (p : α × Nat) => cs.setIfInBounds (off + p.2) p.1) cs).toList = overlay cs.toList (off + k) m := by
 induction m with
 | nil => intro k off cs _; simp [overlay]
 | cons x m ih =>
  intro k off cs h
  simp only [List.length_cons] at h
  simp only [List.zipIdx_cons, List.foldl_cons]
  rw [ih (k + 1) off _ (by simp; omega)]
  rw [overlay_cons (by simp; omega)]
  simp [Nat.add_assoc]
theorem fill_ok {S : Snap} {μ : List Mu} {a : Act} (place : Nat → Option (Nat × Nat)) : ∀ (ps : List (Nat × Operand)) (qs : List (Nat × List AV)) (cells : List AV) (cs : Array Value) (r : List AV), PartsOk τ ps qs → (∀ p ∈ ps, V S μ (ev τ p.2) (a.eval p.2)) → VL S μ cells cs.toList → fillA place cells qs = some r →
  ∃ cs', Instr.fill place cs (ps.map fun p => (p.1, a.eval p.2)) = some cs' ∧ VL S μ r cs'.toList
 | [], [], cells, cs, r, _, _, hv, hf => by
  simp only [fillA, Option.some.injEq] at hf
  subst hf
  exact ⟨cs, rfl, hv⟩
 | (i, x) :: ps, (j, l) :: qs, cells, cs, r, hp, hx, hv, hf => by
  obtain ⟨rfl, ⟨b, h1, h2⟩, h3⟩ := hp
  simp only [fillA] at hf
  cases hpl : place i with
  | none => rw [hpl] at hf; cases hf
  | some os =>
   obtain ⟨off, size⟩ := os
   rw [hpl] at hf
   simp only at hf
   split at hf
   ·rename_i hc
    have h4 := (h1 _ _ _ (hx (i, x) (by simp))).cells h2
    have h5 : (a.eval x).cells.size = l.length := by rw [← Array.length_toList]; exact h4.length
    have h6 : cs.size = cells.length := by rw [← Array.length_toList]; exact hv.length
    have h7 := overlay_foldl (a.eval x).cells.toList 0 off cs (by simp [h5]; omega)
    have h8 : VL S μ (overlay cells off l) (overlay cs.toList off (a.eval x).cells.toList) := by
     refine VL.of_vp (hv.vp.overlay h4 hc.2) ?_
     simp only [overlay, List.length_append, List.length_take, List.length_drop, Array.length_toList, h5, h6]
    obtain ⟨cs', k1, k2⟩ := fill_ok place ps qs (overlay cells off l) ((a.eval x).cells.zipIdx.foldl (fun cs (c, j) => cs.setIfInBounds (off + j) c) cs) r h3 (fun p hp => hx p (by simp [hp])) (by
     have : ((a.eval x).cells.zipIdx.foldl (fun cs (c, j) => cs.setIfInBounds (off + j) c) cs).toList = overlay cs.toList off (a.eval x).cells.toList := by
      rw [← Array.foldl_toList, Array.toList_zipIdx]; simpa using h7
     rw [this]; exact h8) hf
    refine ⟨cs', ?_, k2⟩
    simp only [List.map_cons, Instr.fill, hpl]
    rw [if_neg (by simp [h5, hc.1]; omega)]
    exact k1
   ·cases hf
 | [], _ :: _, _, _, _, h, _, _, _ => h.elim
 | _ :: _, [], _, _, _, h, _, _, _ => h.elim
theorem LOp.build {t : TypeId} {parts : Array (Nat × Operand)} {fs : Array Field} {places : Array (Nat × Nat)} {z : Value} {zl r : List AV} {qs : List (Nat × List AV)} (hz : ∀ w, (zeroValue t).run P w = .ok z w) (hZ : ZeroOk zl z) (hs : ∀ w, (underlying t).run P w = .ok (.struct fs) w)
  (hpl : ∀ w, (fs.mapM fun f => Prod.mk f.offset <$> sizeOf f.type).run P w = .ok places w) (ho : o.op = .build t parts) (hps : PartsOk τ parts.toList qs) (hr : fillA (places[·]?) zl qs = some r) : LOp P o τ (.agg r) := by
 intro S μ a hx
 obtain ⟨cs', h1, h2⟩ := fill_ok (S := S) (μ := μ) (a := a) (places[·]?) parts.toList qs zl z.cells r hps (fun p hp => hx p.2 (by simp [ho, Op.operands]; exact ⟨p.1, by simpa using hp⟩)) (hZ S μ) hr
 refine ⟨.agg cs', fun w _ => ?_, ?_⟩
 ·simp [execOp, ho, Instr.build, hz, hs, hpl, h1]
 ·simp only [V]; exact ⟨cs', rfl, h2⟩
theorem TOp.buildSlice_o {t e : TypeId} {len : Nat} {parts : Array (Nat × Operand)} {z : Value} {za : AV} {r : List AV} {qs : List (Nat × List AV)} (p : Nat) {g : Ob} (hp : Γ[p]? = some g) (ht : ∀ w, (underlying t).run P w = .ok (.slice e) w) (hsz : ∀ w, (sizeOf e).run P w = .ok 1 w)
  (hz : ∀ w, (zeroValue e).run P w = .ok z w) (hzc : z.cells = #[z]) (hza : ∀ S μ, V S μ za z) (ho : o.op = .buildSlice t len parts) (hmax : Nat.ble len 16777216 = true) (hps : PartsOk τ parts.toList qs) (hr : fillA (fun i => some (i * 1, 1)) (List.replicate len za) qs = some r) :
  TOp P o τ Γ (.oref p (g.ver + 1) 0 len) [(p, r)] := by
 intro S μ Γ2 a w _ hd hw hx next Q hnx
 have hfill : ((Array.range (len * 1)).map fun i => (if len * 1 = 0 then (#[] : Array Value) else z.cells)[i % (if len * 1 = 0 then (#[] : Array Value) else z.cells).size]!) = (List.replicate len z).toArray := by
  apply Array.ext'
  simp only [Array.toList_map, Array.toList_range]
  apply List.ext_getElem?
  intro i
  simp only [List.getElem?_map, List.getElem?_replicate, Nat.mul_one]
  rcases Nat.lt_or_ge i len with hlt | hge
  ·have : ¬ len = 0 := by omega
   simp [hlt, hzc, Nat.mod_one, this]
  ·simp [Nat.not_lt.2 hge]
 have hzl : VL S μ (List.replicate len za) (List.replicate len z) := by
  clear hr hfill hmax
  induction len with
  | zero => simp only [List.replicate_zero, VL]
  | succ k ih => simp only [List.replicate_succ, VL]; exact ⟨hza S μ, by
    refine VL.of_vp ?_ (by simp)
    generalize k = k
    induction k with
    | zero => simp only [List.replicate_zero, VP]
    | succ k ih => simp only [List.replicate_succ, VP]; exact ⟨hza S μ, ih⟩⟩
 obtain ⟨cs', h1, h2⟩ := fill_ok (S := S) (μ := μ) (a := a) (fun i => some (i * 1, 1)) parts.toList qs (List.replicate len za) (List.replicate len z).toArray r hps (fun p hp => hx p.2 (by simp [ho, Op.operands]; exact ⟨p.1, by simpa using hp⟩)) (by simpa using hzl) hr
 have hrun : (execOp a.eval o).run P w = .ok (.value (.slice (some ⟨w.heap.size, 0, none⟩) len len)) (more w cs' e) := by
  have c1 : ¬ (len > 16777216) := by have := Nat.le_of_ble_eq_true hmax; omega
  by_cases hn0 : len = 0
  ·subst hn0
   simp only [Nat.zero_mul, List.replicate_zero] at h1 hfill
   simp [execOp, ho, Instr.buildSlice, ht, hsz, newRow, more]
   simp at h1
   rw [show Array.range 0 = #[] from by apply Array.ext'; simp]
   simp [h1]
  ·have h9 := hfill
   simp only [Nat.mul_one, if_neg hn0] at h9
   simp [execOp, ho, Instr.buildSlice, ht, hsz, newRow, more, c1, hn0, hz]
   simp at h9
   rw [h9]
   simp at h1
   simp [h1]
 unfold Oper.wp
 rw [hrun]
 have hp2 : Γ2[p]? = some g := (hd (p, r) (by simp)).trans hp
 obtain ⟨k1, k2⟩ := hw.fill_new (more_grow w cs' e) (es := 0) (l := r) (blk := some w.heap.size) (cs := cs') hp2 (fun b hb => by simp at hb; subst hb; exact ⟨Nat.le_refl _, more_new w _ e⟩) (by simp) h2.vp
 refine hnx S _ _ _ (SExt.refl S) (SFresh.refl _ S) k2 (by rw [fillOb_one hp2]; exact k1) ?_ (more_grow w _ e)
 have hml : p < μ.length := by rw [hw.len]; exact lt_of_getElem? hp2
 have hrl : r.length = len := by
  have : ∀ (qs : List (Nat × List AV)) (c r : List AV), fillA (fun i => some (i * 1, 1)) c qs = some r → r.length = c.length := by
   intro qs
   induction qs with
   | nil => intro c r h; simp only [fillA, Option.some.injEq] at h; rw [h]
   | cons q qs ih =>
    intro c r h
    obtain ⟨i, l⟩ := q
    simp only [fillA] at h
    split at h
    ·rename_i hc
     rw [ih _ _ h]
     simp only [overlay, List.length_append, List.length_take, List.length_drop]
     omega
    ·cases h
  simpa using this _ _ _ hr
 have hcl : cs'.size = len := by rw [← Array.length_toList, h2.length, hrl]
 simp only [V]
 refine ⟨_, _, _, by simp [hml]; rfl, Nat.le_refl _, rfl, fun _ => ?_⟩
 simp [hcl]
end
end Go.AM

namespace Go.AM
section
variable {P : Program} {N : Nat} {o : Oper} {τ : List (Nat × AV)} {Γ : List Ob} {Q : PQ}
theorem WI.bump {S : Snap} {μ : List Mu} {w : World} (h : WI S μ Γ w) {p ver : Nat} {l : List AV} {m : Mu} (hp : Γ[p]? = some ⟨ver, some l⟩) (hm : μ[p]? = some m) :
  WI S (μ.set p { m with ver := ver + 1 }) (Γ.set p ⟨ver + 1, some l⟩) w ∧ MuLe 0 μ (μ.set p { m with ver := ver + 1 }) := by
 have hv := h.ver p _ m hp hm
 simp only at hv
 have hM : MuLe 0 μ (μ.set p { m with ver := ver + 1 }) := MuLe.set hm (by simp only; omega) fun b hb => .inl hb
 have hpl := lt_of_getElem? hp
 have hml := lt_of_getElem? hm
 have back : ∀ {i : Nat} {g : Ob} {m' : Mu}, (Γ.set p ⟨ver + 1, some l⟩)[i]? = some g → (μ.set p { m with ver := ver + 1 })[i]? = some m' → (i = p ∧ g = ⟨ver + 1, some l⟩ ∧ m' = { m with ver := ver + 1 }) ∨ (i ≠ p ∧ Γ[i]? = some g ∧ μ[i]? = some m') := by
  intro i g m' hg hm'
  by_cases e : p = i
  ·subst e
   simp [hpl] at hg; simp [hml] at hm'
   exact .inl ⟨rfl, hg.symm, hm'.symm⟩
  ·rw [List.getElem?_set_ne e] at hg hm'
   exact .inr ⟨fun h => e h.symm, hg, hm'⟩
 refine ⟨⟨h.snap, by simp [h.len], ?_, ?_, ?_⟩, hM⟩
 ·intro i g m' hg hm'
  rcases back hg hm' with ⟨rfl, rfl, rfl⟩ | ⟨_, hg, hm'⟩
  ·rfl
  ·exact h.ver i g m' hg hm'
 ·intro i v l' m' hg hm'
  rcases back hg hm' with ⟨rfl, e, rfl⟩ | ⟨_, hg, hm'⟩
  ·obtain ⟨rfl, rfl⟩ : v = ver + 1 ∧ l' = l := by simpa using e
   have := h.own i ver l' m hp hm
   unfold OwnAt at this ⊢
   simp only
   split at this
   ·exact this
   ·obtain ⟨k1, cs, T, k2, k3, k4⟩ := this
    exact ⟨k1, cs, T, k2, k3, VP.mono (SExt.refl S) hM _ _ k4⟩
  ·exact (h.own i v l' m' hg hm').mono hM
 ·intro i i' g g' m1 m1' b hg hs hg' hs' hm1 hm1' hb hb'
  rcases back hg hm1 with ⟨e1, e2, e3⟩ | ⟨_, hg1, hm2⟩
  ·rcases back hg' hm1' with ⟨e4, _, _⟩ | ⟨_, hg2, hm3⟩
   ·rw [e1, e4]
   ·subst e3; rw [e1]; exact h.sep p i' _ g' m m1' b hp rfl hg2 hs' hm hm3 hb hb'
  ·rcases back hg' hm1' with ⟨e4, e5, e6⟩ | ⟨_, hg2, hm3⟩
   ·subst e6; rw [e4]; exact h.sep i p g _ m1 m b hg1 hs hp rfl hm2 hm hb hb'
   ·exact h.sep i i' g g' m1 m1' b hg1 hs hg2 hs' hm2 hm3 hb hb'
def ReadAs (Γ : List Ob) (a : AV) (m : Nat) (ys : List AV) : Prop :=
 ys.length = m ∧ ∀ (S : Snap) (μ : List Mu) (w : World) (v : Value), WI S μ Γ w → V S μ a v →
  ∃ ad cap, v = .slice ad m cap ∧ (m = 0 ∨ ∃ b off us, ad = some ⟨b, off, none⟩ ∧ VL S μ ys us ∧ ∀ j u, us[j]? = some u → w.cell? ⟨b, off + j, none⟩ = some u)
theorem ReadAs.own {p ver n : Nat} {l : List AV} (hp : Γ[p]? = some ⟨ver, some l⟩) (hn : l.length = n) : ReadAs Γ (.oref p ver 0 n) n l := by
 refine ⟨hn, fun S μ w v hw hv => ?_⟩
 simp only [V] at hv
 obtain ⟨m, a, cap, h1, h2, h3, h4⟩ := hv
 have h5 := h4 (hw.ver p _ m hp h1)
 refine ⟨a, cap, h3, ?_⟩
 cases hb : m.blk with
 | none => rw [hb] at h5; exact .inl h5.2.2
 | some b =>
  rw [hb] at h5
  obtain ⟨rfl, h6, h7, hmp⟩ := h5
  obtain ⟨cs, T, e1, e2, e3, e4⟩ := own_cells hw hp h1 hb hmp
  refine .inr ⟨b, 0, cs.toList.take l.length, rfl, e3.vl_take, fun j u hj => ?_⟩
  have hlt := lt_of_getElem? hj
  simp only [List.length_take] at hlt
  rw [List.getElem?_take, if_pos (by omega)] at hj
  simp only [World.cell?, e1, Nat.zero_add]
  simpa using hj
theorem VL.ones {S : Snap} {μ : List Mu} : ∀ (l : List AV) (vs : List Value), VL S μ l vs → l.all AV.one = true → ∀ v ∈ vs, v.oneCell' = true
 | [], [], _, _, _, hv => by cases hv
 | x :: l, u :: vs, h, ha, v, hv => by
  simp only [VL] at h
  simp only [List.all_cons, Bool.and_eq_true] at ha
  rcases List.mem_cons.1 hv with e | hv
  ·subst e; exact (h.1.one ha.1).1
  ·exact VL.ones l vs h.2 ha.2 v hv
 | [], _ :: _, h, _, _, _ => by simp only [VL] at h
 | _ :: _, [], h, _, _, _ => by simp only [VL] at h
theorem ROp.append {t e : TypeId} {s x : Operand} {I : TypeInfo} {z : Value} {bytes : Nat} {p ver n m : Nat} {l ys : List AV} {K : List (Nat × AV) → List Ob → Prop}
  (ht : P.underlying t = some (.slice e)) (hI : P.info? e = some I) (hz : I.zero = some z) (hsz : I.size = 1) (hby : I.bytes = bytes) (hzs : z.cells.size = 1)
  (ho : o.op = .call { callee := .builtin .append, args := #[s, x], argTypes := #[t, t] }) (hd : dstLt N o = true) (hs : ev τ s = .oref p ver 0 n) (hp : Γ[p]? = some ⟨ver, some l⟩) (hl : l.length = n) (hx : ReadAs Γ (ev τ x) m ys) (hone : ys.all AV.one = true)
  (hb : (n + m) * bytes ≤ 140737488355328) (hmx : n + m ≤ 4611686018427387904) (hK : K (put τ o.dst (.oref p (ver + 1) 0 (n + m))) (Γ.set p ⟨ver + 1, some (l ++ ys)⟩)) : ROp P N o τ Γ K := by
 intro S0 μ0 w0 S μ a w hi next Q hnx
 have hw := hi.wi
 have k1 := hi.ci.ev s
 rw [hs] at k1
 simp only [V] at k1
 obtain ⟨mm, ad, cap, h1, h2, h3, h4⟩ := k1
 have hver := hw.ver p _ mm hp h1
 simp only at hver
 have h5 := h4 hver
 obtain ⟨adx, capx, h6, h7⟩ := hx.2 S μ w _ hw (hi.ci.ev x)
 have hym := hx.1
 have hml := lt_of_getElem? h1
 have hpl := lt_of_getElem? hp
 have hmax : maxLen = 9223372036854775807 := rfl
 -- the end, once for all: the new world is the old one with new blocks, the object lies in one of them
 have fin : ∀ (v' : Value) (w' : World) (olds us : List Value), (execOp a.eval o).run P w = .ok (.value v') w' → VL S μ l olds → VL S μ ys us → 0 < n + m → w'.ownsRow w.heap.size e 1 v' (n + m) (olds ++ us) → w.grownBy w' none → o.wp P a w next Q := by
  intro v' w' olds us hrun hol hus hpos hrow hgr
  unfold Oper.wp
  rw [hrun]
  obtain ⟨_, hrow⟩ := hrow
  rcases hrow with ⟨_, h0⟩ | ⟨g, cap', cur, rfl, hg1, hg2, hg3, hg4, hg5, hg6⟩
  ·omega
  ·have hG : Grow w w' := ⟨hgr.size, fun b hb => hgr.block b hb (fun e => by cases e), hgr.os, hgr.tape, hgr.output⟩
   have hvp : VP S μ (l ++ ys) cur.toList := by
    have e1 : cur.toList = (olds ++ us) ++ cur.toList.drop ((n + m) * 1) := by rw [← hg6, List.take_append_drop]
    rw [e1, List.append_assoc]
    refine VP.app hol ?_
    have := VP.app hus (l' := []) (vs' := cur.toList.drop ((n + m) * 1)) (by simp only [VP])
    simpa using this
   obtain ⟨q1, q2⟩ := hw.fill_new hG (es := 0) (l := l ++ ys) (blk := some g) (cs := cur) (T := e) hp (fun b hb => by simp at hb; subst hb; exact ⟨hg1, hg2⟩) (by simp) hvp
   refine hnx S _ _ w' _ _ (SExt.refl S) hK ⟨hi.fr.grow (SExt.refl S) (SFresh.refl _ S) q2 hG, q1, ?_, by rw [put_size]; exact hi.tsz, by rw [put_defers]; exact hi.dfr⟩
   refine (hi.ci.mono (SExt.refl S) q2.le).put (fun d hd' => by rw [hi.tsz.1]; exact dstLt_spec hd d hd') ?_
   simp only [V]
   refine ⟨_, _, _, by simp [hml]; rfl, Nat.le_refl _, rfl, fun _ => ?_⟩
   simp only [Nat.zero_add, Nat.mul_one]
   exact ⟨trivial, hg3, by omega, trivial⟩
 have hargs : (execOp a.eval o).run P w = ((Builtin.append_ #[t, t] o.type #[.slice ad n cap, .slice adx m capx]).run P w).andThen fun v w' => .ok (.value v) w' := by
  simp [execOp, ho, resolve, invoke, builtin, h3, h6]
 have hu : ∀ w, (underlying t).run P w = .ok (.slice e) w := run_underlying ht
 by_cases hm0 : m = 0
 ·-- nothing is appended
  subst hm0
  have hys : ys = [] := List.eq_nil_of_length_eq_zero hym
  subst hys
  have hle : n ≤ cap := by
   cases hb' : mm.blk with
   | none => rw [hb'] at h5; simp only at h5; omega
   | some b => rw [hb'] at h5; exact h5.2.1
  have hfc : (Builtin.firstCells 1 0 (.slice adx 0 capx)).run P w = .ok #[] w := by
   cases adx <;> simp [Builtin.firstCells, loadCells, loadCellsFrom]
  have hrun : (execOp a.eval o).run P w = .ok (.value (.slice ad n cap)) w := by
   rw [hargs]
   cases ad <;> simp [Builtin.append_, hu, sizeOf, typeInfo, hI, hsz, Builtin.lenOf, hle, hfc, storeCells]
  obtain ⟨q1, q2⟩ := hw.bump hp h1
  unfold Oper.wp
  rw [hrun]
  rw [List.append_nil] at hK
  refine hnx S _ _ w _ _ (SExt.refl S) hK ⟨⟨hi.fr.ext, ?_, ?_, hi.fr.keep, hi.fr.size, hi.fr.os, hi.fr.tape, hi.fr.output, hi.fr.sf⟩, q1, ?_, by rw [put_size]; exact hi.tsz, by rw [put_defers]; exact hi.dfr⟩
  ·exact hi.fr.le.trans (B' := w0.heap.size) (MuLe.set h1 (by simp only; omega) fun b hb => .inl hb) (Nat.le_refl _)
  ·intro i m1 b hm1 hb1
   by_cases e : p = i
   ·subst e; simp [hml] at hm1; subst hm1; exact hi.fr.new p mm b h1 hb1
   ·rw [List.getElem?_set_ne e] at hm1; exact hi.fr.new i m1 b hm1 hb1
  ·refine (hi.ci.mono (SExt.refl S) q2).put (fun d hd' => by rw [hi.tsz.1]; exact dstLt_spec hd d hd') ?_
   simp only [V]
   exact ⟨{ mm with ver := ver + 1 }, ad, cap, by simp [hml], Nat.le_refl _, rfl, fun _ => h5⟩
 ·rcases h7 with h7 | ⟨bx, offx, us, rfl, h8, h9⟩
  ·exact absurd h7 hm0
  have hul : us.length = m := by rw [h8.length, hym]
  have h9' : ∀ j u, us[j]? = some u → w.cell? (Addr.add ⟨bx, offx, none⟩ j) = some u := fun j u hj => by rw [Addr.add_mk]; exact h9 j u hj
  have hones := VL.ones ys us h8 hone
  cases hb' : mm.blk with
  | none =>
   rw [hb'] at h5
   simp only at h5
   obtain ⟨hc0, _, hn0⟩ := h5
   have hl0 : l = [] := List.eq_nil_of_length_eq_zero (by omega)
   subst hl0
   cases ad with
   | some b0 =>
    obtain ⟨v', w', r1, r2, r3⟩ := run_append_arg_grows (P := P) w t o.type e I z 1 bytes ht hI hz hsz hby hzs (by omega) b0 n cap [] (by simp; omega) (by simp) ⟨bx, offx, none⟩ m capx us (by omega) h9' (by omega) (by omega) hb
    exact fin v' w' [] us (by rw [hargs, r1]; rfl) (by simp only [VL]) h8 (by omega) (by simpa using r2) r3
   | none =>
    subst hc0; subst hn0
    obtain ⟨v', w', r1, r2, r3, _⟩ := run_append_own (P := P) w w.heap.size t o.type e I z 1 bytes ht hI hz hsz hby hzs (by omega) (.slice none 0 0) 0 [] (World.ownsRow_nil w _ e 1) ⟨bx, offx, none⟩ m capx us (by omega) h9' hones (by omega) hb (Nat.le_refl _)
    exact fin v' w' [] us (by rw [hargs, r1]; rfl) (by simp only [VL]) h8 (by omega) (by simpa using r2) r3
  | some b =>
   rw [hb'] at h5
   simp only at h5
   obtain ⟨rfl, h10, h11, hmp⟩ := h5
   obtain ⟨cs, T, e1, e2, e3, e4⟩ := own_cells hw hp h1 hb' hmp
   have hcl : l.length ≤ cs.toList.length := e3.length
   simp only [Array.length_toList] at hcl
   by_cases hroom : n + m ≤ cap
   ·-- in place
    have hspan : n + m ≤ cs.size := by
     have : cap ≤ cap * (mm.es + 1) := Nat.le_mul_of_pos_right _ (by omega)
     omega
    have hst := run_storeCells (P := P) (w := w) (b := b) (T := T) us n 0 cs e1 (by omega) hones
    have hne : us ≠ [] := fun e => by subst e; simp at hul; omega
    rw [if_neg hne] at hst
    simp only [Nat.add_zero] at hst
    have hfc : (Builtin.firstCells 1 m (.slice (some ⟨bx, offx, none⟩) m capx)).run P w = .ok us.toArray w := by
     have := run_firstCells_some (P := P) w 1 m ⟨bx, offx, none⟩ m capx us (by omega) h9'
     simpa using this
    have hrun : (execOp a.eval o).run P w = .ok (.value (.slice (some ⟨b, 0, none⟩) (n + m) cap)) (recell w b (AM.overlay cs.toList n us).toArray T) := by
     rw [hargs]
     simp [Builtin.append_, hu, sizeOf, typeInfo, hI, hsz, Builtin.lenOf, hroom, hfc, Addr.add_mk, hst]
    have hsz' : (AM.overlay cs.toList n us).toArray.size = cs.size := by
     simp only [List.size_toArray, AM.overlay, List.length_append, List.length_take, List.length_drop, Array.length_toList]
     omega
    have hvp : VP S μ (l ++ ys) (AM.overlay cs.toList n us) := by
     unfold AM.overlay
     rw [List.append_assoc]
     refine VP.app ?_ ?_
     ·rw [← hl]; exact e3.vl_take
     ·have := VP.app h8 (l' := []) (vs' := cs.toList.drop (n + us.length)) (by simp only [VP])
      simpa using this
    have hw1 := hw.put hp h1 hb' e1 hsz' (by simpa using hvp)
    obtain ⟨q1, q2⟩ := hw1.bump (p := p) (ver := ver) (l := l ++ ys) (m := mm) (by simp [hpl]) h1
    rw [List.set_set] at q1
    unfold Oper.wp
    rw [hrun]
    refine hnx S _ _ _ _ _ (SExt.refl S) hK ⟨⟨hi.fr.ext, ?_, ?_, ?_, by simpa [recell] using hi.fr.size, hi.fr.os, hi.fr.tape, hi.fr.output, hi.fr.sf⟩, q1, ?_, by rw [put_size]; exact hi.tsz, by rw [put_defers]; exact hi.dfr⟩
    ·exact hi.fr.le.trans (B' := w0.heap.size) (MuLe.set h1 (by simp only; omega) fun b hb => .inl hb) (Nat.le_refl _)
    ·intro i m1 b1 hm1 hb1
     by_cases e : p = i
     ·subst e; simp [hml] at hm1; subst hm1; exact hi.fr.new p mm b1 h1 hb1
     ·rw [List.getElem?_set_ne e] at hm1; exact hi.fr.new i m1 b1 hm1 hb1
    ·intro b1 hb1 hno
     have hne : b ≠ b1 := by
      intro e
      subst e
      rcases hi.fr.new p mm b h1 hb' with ⟨m0, q1, q2⟩ | q
      ·exact hno p m0 q1 q2
      ·omega
     rw [recell_ne hne]
     exact hi.fr.keep b1 hb1 hno
    ·refine (hi.ci.mono (SExt.refl S) q2).put (fun d hd' => by rw [hi.tsz.1]; exact dstLt_spec hd d hd') ?_
     simp only [V]
     refine ⟨_, _, _, by simp [hml]; rfl, Nat.le_refl _, rfl, fun _ => ?_⟩
     simp only [hb']
     exact ⟨trivial, hroom, h11, hmp⟩
   ·obtain ⟨v', w', r1, r2, r3⟩ := run_append_arg_grows (P := P) w t o.type e I z 1 bytes ht hI hz hsz hby hzs (by omega) ⟨b, 0, none⟩ n cap (cs.toList.take l.length) (by simp; omega) (fun j u hj => by
      have hlt := lt_of_getElem? hj
      simp only [List.length_take] at hlt
      rw [List.getElem?_take, if_pos (by omega)] at hj
      rw [Addr.add_mk]
      simp only [World.cell?, e1, Nat.zero_add]
      simpa using hj) ⟨bx, offx, none⟩ m capx us (by omega) h9' (by omega) (by omega) hb
    exact fin v' w' _ us (by rw [hargs, r1]; rfl) e3.vl_take h8 (by omega) r2 r3
end
end Go.AM

namespace Go.AM
section
variable {P : Program} {N : Nat} {o : Oper} {τ : List (Nat × AV)} {Γ : List Ob} {Q : PQ}
def SelL (Γ : List Ob) (sel0 : List (Nat × Nat)) : List (Nat × Nat) → List Ob → Prop
 | [], [] => True
 | p :: sel, ⟨v, c⟩ :: Γ' => (match c with
   | none => ∃ c', Γ[p.1]? = some ⟨v + p.2, c'⟩
   | some l => Γ[p.1]? = some ⟨v + p.2, some (AV.rens (sigma sel0) l)⟩ ∧ AV.lts sel0.length l = true) ∧ SelL Γ sel0 sel Γ'
 | _, _ => False
theorem SelL.length {sel0 : List (Nat × Nat)} : ∀ {sel : List (Nat × Nat)} {Γ' : List Ob}, SelL Γ sel0 sel Γ' → Γ'.length = sel.length
 | [], [], _ => rfl
 | p :: sel, ⟨v, c⟩ :: Γ', h => by simp [SelL.length h.2]
 | [], _ :: _, h => h.elim
 | _ :: _, [], h => h.elim
theorem SelL.at {sel0 : List (Nat × Nat)} : ∀ {sel : List (Nat × Nat)} {Γ' : List Ob}, SelL Γ sel0 sel Γ' → ∀ (i : Nat) (g' : Ob) (p : Nat × Nat), Γ'[i]? = some g' → sel[i]? = some p → ∃ g, Γ[p.1]? = some g ∧ g.ver = g'.ver + p.2 ∧ ∀ l, g'.cells = some l → AV.lts sel0.length l = true ∧ g.cells = some (AV.rens (sigma sel0) l)
 | [], [], _, i, g', p, hg, _ => by simp at hg
 | q :: sel, ⟨v, c⟩ :: Γ', h, 0, g', p, hg, hp => by
  simp at hg hp
  subst hg; subst hp
  obtain ⟨h, _⟩ := h
  cases c with
  | none => obtain ⟨c', h⟩ := h; exact ⟨_, h, rfl, fun l e => by cases e⟩
  | some l => exact ⟨_, h.1, rfl, fun l' e => by cases e; exact ⟨h.2, rfl⟩⟩
 | q :: sel, ⟨v, c⟩ :: Γ', h, i + 1, g', p, hg, hp => by
  simp at hg hp
  exact SelL.at h.2 i g' p hg hp
 | [], _ :: _, h, _, _, _, _, _ => h.elim
 | _ :: _, [], h, _, _, _, _, _ => h.elim
theorem bodyQ.mk {fn : Func} {e : Exit} {k : Nat} {r r' : AV} {Γ' : List Ob} (sel : List (Nat × Nat)) (he : e = .normal ∨ e = .ret) (hk : (List.range k).all (fun i => sel[i]? == some (i, 0)) = true) (hn : (sel.map (·.1)).Nodup) (hr : r.ren (sigma sel) = r') (hrl : r.lt sel.length = true) (h : Res P fn τ Γ r') (hs : SelL Γ sel sel Γ') : bodyQ P fn k r Γ' e τ Γ := by
 have hall : ∀ i, i < k → sel[i]? = some (i, 0) := fun i hi => by
  have := List.all_eq_true.1 hk i (List.mem_range.2 hi)
  simpa using this
 refine ⟨he, sel, ?_, hall, by rw [hr]; exact h, hrl, hs.length, hn, fun i g' hg => ?_⟩
 ·cases k with
  | zero => exact Nat.zero_le _
  | succ k => have := lt_of_getElem? (hall k (by omega)); omega
 ·have hi : i < sel.length := by rw [← hs.length]; exact lt_of_getElem? hg
  have hp : sel[i]? = some (sigma sel i) := by simp [sigma, List.getD, List.getElem?_eq_getElem hi]
  exact hs.at i g' _ hg hp
theorem rens_map {α : Type} {f : α → AV} (hf : ∀ x, (f x).lt 0 = true) {σ : Nat → Nat × Nat} {l : List α} : l.map f = AV.rens σ (l.map f) := (AV.rens_of_lt0 σ _ (lts0_map hf l)).symm
theorem AV.lt_mono0 {k : Nat} : ∀ a : AV, a.lt 0 = true → a.lt k = true
 | a, h => by
  have : ∀ (l : List AV), (∀ a ∈ l, a.lt 0 = true → a.lt k = true) → AV.lts 0 l = true → AV.lts k l = true := by
   intro l
   induction l with
   | nil => intro _ _; rfl
   | cons a l ih =>
    intro hh ha
    simp only [AV.lts, Bool.and_eq_true] at ha ⊢
    exact ⟨hh a (by simp) ha.1, ih (fun b hb => hh b (by simp [hb])) ha.2⟩
  cases a with
  | sl n l => simp only [AV.lt] at h ⊢; exact this l (fun b _ => AV.lt_mono0 b) h
  | agg l => simp only [AV.lt] at h ⊢; exact this l (fun b _ => AV.lt_mono0 b) h
  | tup l => simp only [AV.lt] at h ⊢; exact this l (fun b _ => AV.lt_mono0 b) h
  | ptr l => simp only [AV.lt] at h ⊢; exact this l (fun b _ => AV.lt_mono0 b) h
  | fn g p q => simp only [AV.lt, Bool.and_eq_true] at h ⊢; exact ⟨this p (fun b _ => AV.lt_mono0 b) h.1, this q (fun b _ => AV.lt_mono0 b) h.2⟩
  | oref o _ _ _ => simp [AV.lt] at h
  | optr o _ _ => simp [AV.lt] at h
  | mref o _ => simp [AV.lt] at h
  | x _ => rfl
  | f _ _ => rfl
  | cx _ _ _ => rfl
  | bt _ _ _ => rfl
  | any => rfl
  | nni => rfl
theorem lts_map {α : Type} {f : α → AV} (hf : ∀ x, (f x).lt 0 = true) (k : Nat) (l : List α) : AV.lts k (l.map f) = true := by
 induction l with
 | nil => rfl
 | cons a l ih => simp [AV.lts, AV.lt_mono0 _ (hf a), ih]
theorem SelL.arr {α : Type} {f : α → AV} (hf : ∀ x, (f x).lt 0 = true) {sel0 sel : List (Nat × Nat)} {p s v : Nat} {l : List α} {Γ' : List Ob} (hp : Γ[p]? = some ⟨v + s, some (l.map f)⟩) (h : SelL Γ sel0 sel Γ') : SelL Γ sel0 ((p, s) :: sel) (⟨v, some (l.map f)⟩ :: Γ') :=
 ⟨⟨hp.trans (by rw [← rens_map hf]), lts_map hf _ l⟩, h⟩
theorem SelL.cells {sel0 sel : List (Nat × Nat)} {p s v : Nat} {l l' : List AV} {Γ' : List Ob} (hp : Γ[p]? = some ⟨v + s, some l'⟩) (hr : AV.rens (sigma sel0) l = l') (hl : AV.lts sel0.length l = true) (h : SelL Γ sel0 sel Γ') : SelL Γ sel0 ((p, s) :: sel) (⟨v, some l⟩ :: Γ') := by
 subst hr; exact ⟨⟨hp, hl⟩, h⟩
theorem nil_own {S : Snap} {μ : List Mu} {w : World} (hw : WI S μ Γ w) {p v : Nat} {c : Option (List AV)} (hp : Γ[p]? = some ⟨v, c⟩) :
  WI S (μ.set p ⟨v + 1, none, 0, 0, false⟩) (Γ.set p ⟨v + 1, some []⟩) w ∧ MuStep w.heap.size [(p, [])] μ (μ.set p ⟨v + 1, none, 0, 0, false⟩) ∧ V S (μ.set p ⟨v + 1, none, 0, 0, false⟩) (.oref p (v + 1) 0 0) (.slice none 0 0) := by
 obtain ⟨h1, h2⟩ := hw.fill_new (Grow.refl w) (p := p) (es := 0) (l := []) (blk := none) (cs := #[]) (T := 0) hp (fun b hb => by cases hb) (fun _ => rfl) (by simp only [VP])
 refine ⟨h1, h2, ?_⟩
 have hml : p < μ.length := by rw [hw.len]; exact lt_of_getElem? hp
 simp only [V]
 exact ⟨⟨v + 1, none, 0, 0, false⟩, none, 0, by simp [hml], Nat.le_refl _, rfl, fun _ => by simp⟩
theorem RunC.nil_slot {c : Code} (t p : Nat) {v : Nat} (ht : look τ t = .nilsl) (hp : Γ[p]? = some ⟨v, none⟩) {Γ' : List Ob} (hΓ : Γ.set p ⟨v + 1, some []⟩ = Γ') (h : RunC P N c ((t, .oref p (v + 1) 0 0) :: τ) Γ' Q) : RunC P N c τ Γ Q := by
 subst hΓ
 intro S0 μ0 w0 S μ a w hi
 obtain ⟨h1, h2, h3⟩ := nil_own hi.wi hp
 refine h S0 μ0 w0 S _ a w ⟨hi.fr.grow (SExt.refl S) (SFresh.refl _ S) h2 (Grow.refl w), h1, ?_, hi.tsz, hi.dfr⟩
 intro u
 simp only [look]
 split
 ·rename_i e
  subst e
  have := hi.ci t
  rw [ht] at this
  simp only [V] at this
  rw [this]; exact h3
 ·exact V.mono (SExt.refl S) h2.le _ _ (hi.ci u)
theorem at_in {α : Type} {l : List α} {i : Int} {a : α} {n : Nat} (h : at? l i = some a) (hn : l.length = n) : 0 ≤ i ∧ i < n := by
 obtain ⟨h0, h1, _⟩ := at?_spec h; omega
theorem set_in {α : Type} {l l' : List α} {i : Int} {a : α} {n : Nat} (h : setAt? l i a = some l') (hn : l.length = n) : 0 ≤ i ∧ i < n := by
 obtain ⟨h0, h1, _⟩ := setAt?_spec h; omega
theorem TOp.ixo {t e : TypeId} {x ix : Operand} {p ver n : Nat} {k : IntKind} {i : Int} {l : List AV} (ht : ∀ w, (underlying t).run P w = .ok (.slice e) w) (he : ∀ w, (sizeOf e).run P w = .ok 1 w)
  (ho : o.op = .indexAddr t x ix) (hx : ev τ x = .oref p ver 0 n) (hi : ev τ ix = .x (.int k i)) (hb : 0 ≤ i ∧ i < n) (hΓ : Γ[p]? = some ⟨ver, some l⟩) : TOp P o τ Γ (.optr p ver i.toNat) [] := by
 have := LOp.indexAddr_oref ht he ho hx hi hb.1 hb.2 Γ hΓ
 rwa [Nat.zero_add] at this
theorem at_cell {α : Type} {f : α → AV} {l : List α} {i : Int} {a : α} (h : at? l i = some a) : (l.map f)[i.toNat]? = some (f a) := by
 obtain ⟨_, _, h⟩ := at?_spec h
 simp [h]
theorem ROps.st {α : Type} {f : α → AV} {l l' : List α} {i : Int} {y' : α} {all : Array Oper} {rest : List Oper} {t : TypeId} {x y : Operand} {p ver : Nat} {Γ' : List Ob} (hw : wantT all τ o = some true) (hn : ∀ w, (sizeOf t).run P w = .ok 1 w) (ho : o.op = .store t x y) (hd : o.dst = none)
  (hx : ev τ x = .optr p ver i.toNat) (hy : ALe (ev τ y) (f y')) (hc : (f y').cells? = some [f y']) (hone : (f y').one = true) (hp : Γ[p]? = some ⟨ver, some (l.map f)⟩) (hs : setAt? l i y' = some l') (hΓ : Γ.set p ⟨ver, some (l'.map f)⟩ = Γ') (h : ROps P N all rest τ Γ' Q) : ROps P N all (o :: rest) τ Γ Q := by
 obtain ⟨h0, h1, rfl⟩ := setAt?_spec hs
 refine ROps.op hw (ROp.store_le hn ho hd hx hy hc (by simp [hone]) rfl hp (by simp; omega) ?_)
 rw [overlay_set (by simpa using h1), ← List.map_set, hΓ]; exact h
end
end Go.AM

namespace Go.AM
abbrev AV.ik (k : IntKind) (n : Int) : AV := .x (.int k n)
section
variable {P : Program} {N : Nat} {o : Oper} {τ : List (Nat × AV)} {Γ : List Ob} {Q : PQ}
def FillsL (Γ : List Ob) : List (Nat × List AV) → Prop
 | [] => True
 | f :: fs => (∃ ver, Γ[f.1]? = some ⟨ver, none⟩) ∧ FillsL Γ fs
theorem fills_of {fs : List (Nat × List AV)} (hn : (fs.map (·.1)).Nodup) (h : FillsL Γ fs) : fillsOk Γ fs := by
 refine ⟨hn, ?_⟩
 have : ∀ fs : List (Nat × List AV), FillsL Γ fs → ∀ f ∈ fs, ∃ ver, Γ[f.1]? = some ⟨ver, none⟩ := by
  intro fs
  induction fs with
  | nil => intro _ f hf; cases hf
  | cons g fs ih =>
   intro h f hf
   rcases List.mem_cons.1 hf with e | hf
   ·subst e; exact h.1
   ·exact ih h.2 f hf
 exact this fs h
end
end Go.AM
namespace Go.AM
section
variable {P : Program} {N : Nat} {o : Oper} {τ : List (Nat × AV)} {Γ : List Ob} {Q : PQ}
abbrev AV.cp (k : FloatKind) (p : F × F) : AV := .cx k p.1 p.2
theorem ALe.eq {a b : AV} (h : a = b) : ALe a b := h ▸ ALe.refl a
def WeakLe (τ : List (Nat × AV)) : List (Nat × AV) → Prop
 | [] => True
 | (d, v) :: r => ALe (look τ d) v ∧ WeakLe τ r
def DeadLe : List Ob → List Ob → Prop
 | [], [] => True
 | g :: l, g' :: l' => (g'.ver = g.ver ∧ (g'.cells = none ∨ g'.cells = g.cells)) ∧ DeadLe l l'
 | _, _ => False
theorem DeadLe.length : ∀ {l l' : List Ob}, DeadLe l l' → l'.length = l.length
 | [], [], _ => rfl
 | _ :: l, _ :: l', h => by simp [DeadLe.length h.2]
 | [], _ :: _, h => h.elim
 | _ :: _, [], h => h.elim
theorem DeadLe.at : ∀ {l l' : List Ob} {i : Nat} {g' : Ob}, DeadLe l l' → l'[i]? = some g' → ∃ g, l[i]? = some g ∧ g'.ver = g.ver ∧ (g'.cells = none ∨ g'.cells = g.cells)
 | [], [], _, _, _, h => by simp at h
 | g :: l, g1 :: l', 0, g', h, e => by simp at e; subst e; exact ⟨g, rfl, h.1⟩
 | _ :: l, _ :: l', i + 1, g', h, e => by simp at e; simpa using DeadLe.at h.2 e
 | [], _ :: _, _, _, h, _ => h.elim
 | _ :: _, [], _, _, h, _ => h.elim
theorem WI.dead {S : Snap} {μ : List Mu} {Γ' : List Ob} {w : World} (h : WI S μ Γ w) (hd : DeadLe Γ Γ') : WI S μ Γ' w := by
 refine ⟨h.snap, by rw [h.len, hd.length], ?_, ?_, ?_⟩
 ·intro i g m hg hm
  obtain ⟨g0, h1, h2, _⟩ := hd.at hg
  rw [h2]; exact h.ver i g0 m h1 hm
 ·intro i v l m hg hm
  obtain ⟨⟨v0, c0⟩, h1, h2, h3⟩ := hd.at hg
  rcases h3 with h3 | h3
  ·cases h3
  ·simp only at h2 h3; subst h2; subst h3; exact h.own i _ l m h1 hm
 ·intro i i' g g' m m' b hg hs hg' hs' hm hm' hb hb'
  obtain ⟨g0, h1, h2, h3⟩ := hd.at hg
  obtain ⟨g0', h1', h2', h3'⟩ := hd.at hg'
  rcases h3 with h3 | h3
  ·rw [h3] at hs; cases hs
  ·rcases h3' with h3' | h3'
   ·rw [h3'] at hs'; cases hs'
   ·rw [h3] at hs; rw [h3'] at hs'; exact h.sep i i' g0 g0' m m' b h1 hs h1' hs' hm hm' hb hb'
theorem WeakLe.look {S : Snap} {μ : List Mu} {τ' : List (Nat × AV)} {t : Nat} {v : Value} (h : V S μ (look τ t) v) (hw : WeakLe τ τ') : V S μ (AM.look τ' t) v := by
 induction τ' with
 | nil => simp only [AM.look, V]
 | cons p τ' ih =>
  obtain ⟨d, x⟩ := p
  simp only [AM.look]
  split
  ·rename_i e; subst e; exact hw.1 _ _ _ h
  ·exact ih hw.2
theorem RunC.wl {c : Code} {τ' : List (Nat × AV)} {Γ' : List Ob} (hw : WeakLe τ τ') (hd : DeadLe Γ Γ') (h : RunC P N c τ' Γ' Q) : RunC P N c τ Γ Q :=
 fun S0 μ0 w0 S μ a w hi => h S0 μ0 w0 S μ a w ⟨hi.fr, hi.wi.dead hd, fun t => WeakLe.look (hi.ci t) hw, hi.tsz, hi.dfr⟩
theorem RunC.cutN {c : Code} (Mid : List (Nat × AV) → List Ob → Prop) (h1 : RunC P N c τ Γ (thenQ Mid Q)) (h2 : ∀ τ Γ, Mid τ Γ → Q .normal τ Γ) : RunC P N c τ Γ Q := by
 refine h1.mono fun e τ Γ h => ?_
 cases e <;> first | exact h2 τ Γ h | exact h
theorem Bor.ptr {l l' : List AV} (h : Bors Γ l l') : Bor Γ (.ptr l) (.ptr l') := by
 intro S μ Γ2 w Sb v hΓ hw hL hv
 simp only [V] at hv ⊢
 obtain ⟨b, off, cs, h1, h2, h3⟩ := hv
 exact ⟨b, off, cs, h1, hL.ext _ _ h2, h.p S μ Γ2 w Sb _ hΓ hw hL h3⟩
def NsL (Γ : List Ob) : List Nat → Prop
 | [] => True
 | p :: l => (∃ ver, Γ[p]? = some ⟨ver, none⟩) ∧ NsL Γ l
theorem ns_of : ∀ {ns : List Nat}, NsL Γ ns → ∀ p ∈ ns, ∃ ver, Γ[p]? = some ⟨ver, none⟩
 | [], _, p, hp => by cases hp
 | q :: ns, h, p, hp => by
  rcases List.mem_cons.1 hp with e | hp
  ·subst e; exact h.1
  ·exact ns_of h.2 p hp
theorem Res.eq {fn : Func} {r r' : AV} (h : Res P fn τ Γ r) (e : r = r') : Res P fn τ Γ r' := e ▸ h
theorem SelOk.of {sel : List (Nat × Nat)} {Γ' : List Ob} (hn : (sel.map (·.1)).Nodup) (h : SelL Γ sel sel Γ') : SelOk sel Γ Γ' :=
 ⟨h.length, hn, fun i g' hg => by
  have hi : i < sel.length := by rw [← h.length]; exact lt_of_getElem? hg
  have hp : sel[i]? = some (sigma sel i) := by simp [sigma, List.getD, List.getElem?_eq_getElem hi]
  exact h.at i g' _ hg hp⟩
theorem SelL.arr0 {α : Type} {f : α → AV} (hf : ∀ x, (f x).lt 0 = true) {sel0 sel : List (Nat × Nat)} {p s : Nat} {l : List α} {Γ' : List Ob} (hp : Γ[p]? = some ⟨s, some (l.map f)⟩) (h : SelL Γ sel0 sel Γ') : SelL Γ sel0 ((p, s) :: sel) (⟨0, some (l.map f)⟩ :: Γ') :=
 SelL.arr hf (by rw [Nat.zero_add]; exact hp) h
end
end Go.AM

namespace Go.AM
section
variable {P : Program} {N : Nat} {o : Oper} {τ : List (Nat × AV)} {Γ : List Ob} {Q : PQ}
def mkok (by_ : Nat) (n : Int) : Bool := decide (0 ≤ n) && decide (n < 9223372036854775808) && decide ((by_ : Int) * n ≤ 281474976710656)
theorem mk_lo {b : Nat} {n : Int} (h : mkok b n = true) : 0 ≤ n := by simp [mkok] at h; exact h.1.1
theorem mk_hi {b : Nat} {n : Int} (h : mkok b n = true) : n < 9223372036854775808 := by simp [mkok] at h; exact h.1.2
theorem mk_by {b : Nat} {n : Int} (h : mkok b n = true) : (b : Int) * n ≤ 281474976710656 := by simp [mkok] at h; exact h.2
theorem TOp.mkS {α : Type} {f : α → AV} {zv : α} {t e : TypeId} {x y : Operand} {n : Int} {z : Value} {I : TypeInfo} {by_ : Nat} (p : Nat) {g : Ob} (hp : Γ[p]? = some g) (ht : ∀ w, (underlying t).run P w = .ok (.slice e) w) (hi : ∀ w, (typeInfo e).run P w = .ok I w) (hby : I.bytes = by_) (hsz : ∀ w, (sizeOf e).run P w = .ok 1 w)
  (hz : ∀ w, (zeroValue e).run P w = .ok z w) (hzc : z.cells = #[z]) (hza : ∀ S μ, V S μ (f zv) z) (ho : o.op = .makeSlice t x y) (hx : ev τ x = .i64 n) (hy : ev τ y = .i64 n) (hm : mkok by_ n = true) :
  TOp P o τ Γ (.oref p (g.ver + 1) 0 n.toNat) [(p, (List.replicate n.toNat zv).map f)] := by
 rw [List.map_replicate]
 exact TOp.makeSlice_o p hp ht ⟨I, hi, hby⟩ hsz hz hzc hza ho hx hy (mk_lo hm) (mk_hi hm) (mk_by hm)
theorem LOp.fap {s : TypeId} {x : Operand} {f : Nat} {fs : Array Field} {fd : Field} {n : Nat} {l r : List AV} (hs : ∀ w, (underlying s).run P w = .ok (.struct fs) w) (hf : fs[f]? = some fd) (hn : ∀ w, (sizeOf fd.type).run P w = .ok (n + 1) w)
  (ho : o.op = .fieldAddr s x f) (hx : ev τ x = .ptr l) (hr : l.drop fd.offset = r) : LOp P o τ (.ptr r) := hr ▸ LOp.fieldAddr_ptr hs hf hn ho hx
theorem LOp.fao {s : TypeId} {x : Operand} {f : Nat} {fs : Array Field} {fd : Field} {n p ver off off' : Nat} (hs : ∀ w, (underlying s).run P w = .ok (.struct fs) w) (hf : fs[f]? = some fd) (hn : ∀ w, (sizeOf fd.type).run P w = .ok (n + 1) w)
  (ho : o.op = .fieldAddr s x f) (hx : ev τ x = .optr p ver off) (hr : off + fd.offset = off') : LOp P o τ (.optr p ver off') := hr ▸ LOp.fieldAddr_optr hs hf hn ho hx
def apok (by_ n m : Nat) : Bool := decide ((n + m) * by_ ≤ 140737488355328) && decide (n + m ≤ 4611686018427387904)
theorem ap_by {b n m : Nat} (h : apok b n m = true) : (n + m) * b ≤ 140737488355328 := by simp [apok] at h; exact h.1
theorem ap_mx {b n m : Nat} (h : apok b n m = true) : n + m ≤ 4611686018427387904 := by simp [apok] at h; exact h.2
theorem app_len {α : Type} {a b : List α} {n m : Nat} (h : a.length = n) (k : b.length = m) : (a ++ b).length = n + m := by simp [h, k]
theorem ones_map {α : Type} {f : α → AV} (hf : ∀ x, (f x).one = true) {l : List α} : (l.map f).all AV.one = true := by
 induction l with
 | nil => rfl
 | cons a l ih => simp only [List.map_cons, List.all_cons, hf, Bool.true_and]; exact ih
theorem ROps.app {α : Type} {f : α → AV} {xs ys : List α} {all : Array Oper} {rest : List Oper} {t e : TypeId} {s x : Operand} {I : TypeInfo} {z : Value} {bytes : Nat} {p ver n m d : Nat} {Γ' : List Ob} (hw : wantT all τ o = some true)
  (ht : P.underlying t = some (.slice e)) (hI : P.info? e = some I) (hz : I.zero = some z) (hsz : I.size = 1) (hby : I.bytes = bytes) (hzs : z.cells.size = 1)
  (ho : o.op = .call { callee := .builtin .append, args := #[s, x], argTypes := #[t, t] }) (hd : o.dst = some d) (hN : Nat.blt d (N / 2) = true) (hs : ev τ s = .oref p ver 0 n) (hp : Γ[p]? = some ⟨ver, some (xs.map f)⟩) (hl : xs.length = n) (hx : ReadAs Γ (ev τ x) m (ys.map f)) (hone : (ys.map f).all AV.one = true)
  (hb : (n + m) * bytes ≤ 140737488355328) (hmx : n + m ≤ 4611686018427387904) (hΓ : Γ.set p ⟨ver + 1, some ((xs ++ ys).map f)⟩ = Γ') (h : ROps P N all rest ((d, .oref p (ver + 1) 0 (n + m)) :: τ) Γ' Q) : ROps P N all (o :: rest) τ Γ Q := by
 refine ROps.op hw (ROp.append ht hI hz hsz hby hzs ho (by simp only [dstLt, hd]; simpa using hN) hs hp (by simpa using hl) hx hone hb hmx ?_)
 rw [hd, ← List.map_append, hΓ]; exact h
theorem rens_f32 {σ : Nat → Nat × Nat} {l : List F} : AV.rens σ (l.map AV.f32) = l.map AV.f32 := (rens_map (fun _ => rfl)).symm
theorem rens_f64 {σ : Nat → Nat × Nat} {l : List F} : AV.rens σ (l.map AV.f64) = l.map AV.f64 := (rens_map (fun _ => rfl)).symm
theorem rens_i64 {σ : Nat → Nat × Nat} {l : List Int} : AV.rens σ (l.map AV.i64) = l.map AV.i64 := (rens_map (fun _ => rfl)).symm
theorem rens_ik {k : IntKind} {σ : Nat → Nat × Nat} {l : List Int} : AV.rens σ (l.map (AV.ik k)) = l.map (AV.ik k) := (rens_map (fun _ => rfl)).symm
theorem rens_str {σ : Nat → Nat × Nat} {l : List ByteArray} : AV.rens σ (l.map AV.str) = l.map AV.str := (rens_map (fun _ => rfl)).symm
theorem rens_cp {k : FloatKind} {σ : Nat → Nat × Nat} {l : List (F × F)} : AV.rens σ (l.map (AV.cp k)) = l.map (AV.cp k) := (rens_map (fun _ => rfl)).symm
def LiveL (Γ : List Ob) : List (Nat × Nat) → Prop
 | [] => True
 | p :: l => (∃ ver c, Γ[p.1]? = some ⟨ver, some c⟩) ∧ LiveL Γ l
theorem live_of : ∀ {sel : List (Nat × Nat)}, LiveL Γ sel → ∀ p ∈ sel, ∃ ver l, Γ[p.1]? = some ⟨ver, some l⟩
 | [], _, p, hp => by cases hp
 | q :: sel, h, p, hp => by
  rcases List.mem_cons.1 hp with e | hp
  ·subst e; exact h.1
  ·exact live_of h.2 p hp
def NewsL (Γ : List Ob) : List (Nat × Nat) → Prop
 | [] => True
 | p :: l => (∃ ver, Γ[p.1]? = some ⟨ver, none⟩ ∧ p.2 = ver + 1) ∧ NewsL Γ l
theorem news_of : ∀ {ns : List (Nat × Nat)}, NewsL Γ ns → ∀ p ∈ ns, ∃ ver, Γ[p.1]? = some ⟨ver, none⟩ ∧ p.2 = ver + 1
 | [], _, p, hp => by cases hp
 | q :: ns, h, p, hp => by
  rcases List.mem_cons.1 hp with e | hp
  ·subst e; exact h.1
  ·exact news_of h.2 p hp
theorem ROps.callO {all : Array Oper} {rest : List Oper} {d : Nat} {f : FuncId} {A args : List AV} {Γc Γc' Γ' : List Ob} {r r' : AV} (sel ns : List (Nat × Nat)) (hw : wantT all τ o = some true) (hc : CallAs P o τ f A) (hd : o.dst = some d) (hN : Nat.blt d (N / 2) = true)
  (hsel : SelOk sel Γ Γc) (hlive : ∀ p ∈ sel, ∃ ver l, Γ[p.1]? = some ⟨ver, some l⟩) (hA : AV.rens (sigma sel) args = A) (hlt : AV.lts sel.length args = true) (hev : Ev P f args Γc r Γc') (hlen : Γc'.length = sel.length + ns.length)
  (hns : ∀ p ∈ ns, ∃ ver, Γ[p.1]? = some ⟨ver, none⟩ ∧ p.2 = ver + 1) (hnd : ((sel ++ ns).map (·.1)).Nodup) (hr : r.ren (sigma (sel ++ ns)) = r') (hΓ : backOb (sel ++ ns) Γc' Γ = Γ') (h : ROps P N all rest ((d, r') :: τ) Γ' Q) : ROps P N all (o :: rest) τ Γ Q :=
 ROps.op hw (ROp.call hc (by simp only [dstLt, hd]; simpa using hN) hsel hlive hA hlt hev hlen hns hnd (by rw [hd, hr, hΓ]; exact h))
theorem ALes.nil : ALes [] [] := trivial
theorem ALes.cons {a b : AV} {l m : List AV} (h : ALe a b) (k : ALes l m) : ALes (a :: l) (b :: m) := ⟨h, k⟩
theorem CallAs.le {f : FuncId} {A A' : List AV} (h : CallAs P o τ f A) (e : ALes A A') : CallAs P o τ f A' := fun S μ a w hx => (h S μ a w hx).elim fun vs hv => ⟨vs, hv.1, e.vl hv.2⟩
theorem lts_nil {k : Nat} : AV.lts k [] = true := rfl
theorem lts_cons {k : Nat} {a : AV} {l : List AV} (h : a.lt k = true) (h2 : AV.lts k l = true) : AV.lts k (a :: l) = true := by simp only [AV.lts, h, h2, Bool.and_self]
theorem lt_agg {k : Nat} {l : List AV} (h : AV.lts k l = true) : (AV.agg l).lt k = true := by simp only [AV.lt, h]
theorem lt_ptr {k : Nat} {l : List AV} (h : AV.lts k l = true) : (AV.ptr l).lt k = true := by simp only [AV.lt, h]
theorem lt_fn {k : Nat} {g : Fn} {p q : List AV} (h : AV.lts k p = true) (h2 : AV.lts k q = true) : (AV.fn g p q).lt k = true := by simp only [AV.lt, h, h2, Bool.and_self]
theorem lt_sl {α : Type} {f : α → AV} (hf : ∀ x, (f x).lt 0 = true) {n : Nat} {l : List α} : (AV.sl n (l.map f)).lt 0 = true := by simp only [AV.lt, lts0_map hf]
theorem TOp.callS {f : FuncId} {A A' : List AV} {r r' : AV} {Γ' : List Ob} (hc : CallAs P o τ f A) (hA : ALes A A') (hA0 : AV.lts 0 A' = true) (hr : r'.lt 0 = true) (hev : Ev P f A' [] r Γ') (hb : Bor Γ' r r') : TOp P o τ Γ r' [] :=
 TOp.call (hc.le hA) hA0 hr (hev.settle hb)
section draw
variable {all : Array Oper} {rest : List Oper} {τ' : List (Nat × AV)} {n : Nat} {r : AV} {fs : List (Nat × List AV)} {fss : List (List (Nat × List AV))} {bs : List Bool}
theorem TR.l {d : Nat} (hw : wantT all τ o = some true) (hd : o.dst = some d) (hl : LOp P o τ r) (h : TRun P all Γ (List.take n rest) ((d, r) :: τ) τ' fss bs) : TRun P all Γ (List.take (n + 1) (o :: rest)) τ τ' ([] :: fss) (false :: bs) := TRun.l hw hd hl h
theorem TR.d {d : Nat} (hw : wantT all τ o = some true) (hd : o.dst = some d) (ht : TOp P o τ Γ r fs) (h : TRun P all Γ (List.take n rest) ((d, r) :: τ) τ' fss bs) : TRun P all Γ (List.take (n + 1) (o :: rest)) τ τ' (fs :: fss) (false :: bs) := TRun.d hw hd ht h
theorem TR.s {d : Nat} (hw : wantT all τ o = some false) (hd : o.dst = some d) (h : TRun P all Γ (List.take n rest) ((d, .x undef) :: τ) τ' fss bs) : TRun P all Γ (List.take (n + 1) (o :: rest)) τ τ' ([] :: fss) (false :: bs) := TRun.s hw hd h
theorem TR.nil {l : List Oper} : TRun P all Γ (List.take 0 l) τ τ [] [] := TRun.nil τ
theorem ROps.dropS (h : ROps P N all (List.drop n rest) τ Γ Q) : ROps P N all (List.drop (n + 1) (o :: rest)) τ Γ Q := h
theorem ROps.drop0 {l : List Oper} (h : ROps P N all l τ Γ Q) : ROps P N all (List.drop 0 l) τ Γ Q := h
end draw
end
end Go.AM
namespace Go.AM
section
variable {P : Program} {N : Nat} {o : Oper} {τ : List (Nat × AV)} {Γ : List Ob} {Q : PQ}
end
end Go.AM

namespace Go.AM
end Go.AM

namespace Go.AM
section
variable {P : Program} {N : Nat} {o : Oper} {τ : List (Nat × AV)} {Γ : List Ob} {Q : PQ}
theorem SelL.cells0 {sel0 sel : List (Nat × Nat)} {p s : Nat} {l l' : List AV} {Γ' : List Ob} (hp : Γ[p]? = some ⟨s, some l'⟩) (hr : AV.rens (sigma sel0) l = l') (hl : AV.lts sel0.length l = true) (h : SelL Γ sel0 sel Γ') : SelL Γ sel0 ((p, s) :: sel) (⟨0, some l⟩ :: Γ') :=
 SelL.cells (hp.trans (by rw [Nat.zero_add])) hr hl h
theorem lt_slk {α : Type} {f : α → AV} (hf : ∀ x, (f x).lt 0 = true) {k n : Nat} {l : List α} : (AV.sl n (l.map f)).lt k = true := by simp only [AV.lt, lts_map hf]
def fnarrow : F → Option F
 | none => some none
 | some b => match FloatKind.f64.decode b with
  | .nan _ _ => some none
  | .infinity s => some (some (FloatKind.f32.encode (.infinity s)))
  | .number s m e => if (FloatKind.f32.decode (FloatKind.f32.encode (.number s m e))).isInfinity then none else some (some (FloatKind.f32.encode (.number s m e)))
theorem run_narrow {b : Nat} {c y : F} (h : FR .f64 b c) (hy : fnarrow c = some y) (w : World) : ∃ r w', (Conv.floatToFloat .f64 b .f32).run P w = .ok (.float .f32 r) w' ∧ FR .f32 r y ∧ Grow w w' := by
 have hd : ¬ FloatKind.f64 = FloatKind.f32 := by decide
 cases c with
 | none =>
  obtain ⟨h1, h2⟩ := h
  have h2' : (FloatKind.f64.decode b).isNaN = true := h2
  have hy' := Option.some.inj hy
  subst hy'
  cases hdec : FloatKind.f64.decode b with
  | number s m e => rw [hdec] at h2'; cases h2'
  | infinity s => rw [hdec] at h2'; cases h2'
  | nan s t =>
   refine ⟨_, { w with drawn := w.drawn + 1 }, ?_, nan_cut_conv b (w.tape w.drawn (.nanConv .f32 b)), ⟨Nat.le_refl _, fun _ _ => rfl, rfl, rfl, rfl⟩⟩
   simp [Conv.floatToFloat, hdec, Question.forced]
 | some c =>
  obtain ⟨rfl, h1, h2⟩ := h
  have h2' : (FloatKind.f64.decode b).isNaN = false := h2
  unfold fnarrow at hy
  simp only at hy
  cases hdec : FloatKind.f64.decode b with
  | number s m e =>
   rw [hdec] at hy
   simp only at hy
   split at hy
   ·cases hy
   ·rename_i hi
    cases hy
    refine ⟨FloatKind.f32.encode (.number s m e), w, ?_, encode_FR .f32 rfl, Grow.refl w⟩
    simp only [Bool.not_eq_true] at hi
    simp [Conv.floatToFloat, hdec, hi]
  | infinity s =>
   rw [hdec] at hy
   simp only at hy
   cases hy
   refine ⟨FloatKind.f32.encode (.infinity s), w, ?_, encode_FR .f32 rfl, Grow.refl w⟩
   simp [Conv.floatToFloat, hdec]
  | nan s t => rw [hdec] at h2'; cases h2'
theorem TOp.narrow {src dst : TypeId} {x : Operand} {c y : F} (hs : ∃ d, P.underlying src = some d) (hd : P.underlying dst = some (.float .f32)) (ho : o.op = .convert src dst x) (hx : OpF τ x .f64 c) (hy : fnarrow c = some y) : TOp P o τ Γ (.f32 y) [] := by
 intro S μ Γ2 a w _ _ hw h next Q hn
 obtain ⟨d, hs⟩ := hs
 obtain ⟨b, e1, f1⟩ := hx S μ a (h x (by simp [ho, Op.operands]))
 obtain ⟨r, w', hrun, hr, hg⟩ := run_narrow (P := P) f1 hy w
 unfold Oper.wp
 have : (execOp a.eval o).run P w = .ok (.value (.float .f32 r)) w' := by
  cases d <;> simp [execOp, ho, e1, convert, run_underlying hs, run_underlying hd, hrun]
 rw [this]
 exact hn S μ _ w' (SExt.refl S) (SFresh.refl _ S) (MuStep.refl _ _ _) (hw.grow hg) (by simp only [V]; exact ⟨r, rfl, hr⟩) hg
def fsqrt (x : F) : F := x.bind fun b => FloatKind.f64.format.sqrt b
theorem root_notNaN {n : Nat} {d r : Ieee.Datum} (h : d.root n = some r) : r.isNaN = false := by
 cases d with
 | nan s t => simp [Ieee.Datum.root] at h
 | infinity s =>
  simp only [Ieee.Datum.root] at h
  split at h <;> simp at h
  subst h; rfl
 | number s m i =>
  simp only [Ieee.Datum.root] at h
  split at h
  ·simp at h; subst h; rfl
  ·split at h <;> simp at h
   subst h; rfl
theorem sqrt_FR {b c : Nat} (h : FloatKind.f64.format.sqrt b = some c) : FR .f64 c (some c) := by
 unfold Ieee.Format.sqrt at h
 obtain ⟨d, h1, h2⟩ := Option.map_eq_some_iff.1 h
 subst h2
 exact encode_FR .f64 (root_notNaN h1)
theorem sqrt_nan {b : Nat} (h : (FloatKind.f64.format.read b).isNaN = true) : FloatKind.f64.format.sqrt b = none := by
 unfold Ieee.Format.sqrt
 cases hd : FloatKind.f64.format.read b with
 | number s m e => rw [hd] at h; cases h
 | infinity s => rw [hd] at h; cases h
 | nan s t => rfl
theorem TOp.fsqrt {f : FuncId} {x : Operand} {tys : Array TypeId} {c : F} (hc : ∀ (b : Nat) w, (callFunc f #[.float .f64 b]).run P w = (do pure (Next.value (← Extern.MathSqrt.sqrt #[.float .f64 b])) : Sem Next).run P w) (ho : o.op = .call { callee := .value (.func f), args := #[x], argTypes := tys }) (hx : OpF τ x .f64 c) : TOp P o τ Γ (.f64 (fsqrt c)) [] := by
 intro S μ Γ2 a w _ _ hw h next Q hn
 obtain ⟨b, e1, f1⟩ := hx S μ a (h x (by simp [ho, Op.operands, Call.operands]))
 have hfe : a.eval (.func f) = .func (.func f) #[] #[] := rfl
 have hex : (execOp a.eval o).run P w = (do pure (Next.value (← Extern.MathSqrt.sqrt #[.float .f64 b])) : Sem Next).run P w := by
  rw [← hc]
  simp [execOp, ho, resolve, hfe, e1, Deferred.ofValue, invoke]
 have key : ∃ r w', (do pure (Next.value (← Extern.MathSqrt.sqrt #[.float .f64 b])) : Sem Next).run P w = .ok (.value (.float .f64 r)) w' ∧ FR .f64 r (AM.fsqrt c) ∧ Grow w w' := by
  have hsq : Extern.MathSqrt.sqrt #[.float .f64 b] = (match FloatKind.f64.format.sqrt b with | some r => pure (.float .f64 r) | none => do pure (.float .f64 (← choose (.nanBits .f64 b b)))) := rfl
  rw [hsq]
  cases hs : FloatKind.f64.format.sqrt b with
  | some r =>
   refine ⟨r, w, by simp, ?_, Grow.refl w⟩
   cases c with
   | none => rw [sqrt_nan f1.2] at hs; cases hs
   | some c =>
    obtain ⟨rfl, _⟩ := f1
    show FR .f64 r (FloatKind.f64.format.sqrt b)
    rw [hs]; exact sqrt_FR hs
  | none =>
   refine ⟨_, { w with drawn := w.drawn + 1 }, by simp [Question.forced]; rfl, ?_, ⟨Nat.le_refl _, fun _ _ => rfl, rfl, rfl, rfl⟩⟩
   have : AM.fsqrt c = none := by
    cases c with
    | none => rfl
    | some c => obtain ⟨rfl, _⟩ := f1; exact hs
   rw [this]
   exact nan_cut b b _
 obtain ⟨r, w', hrun, hr, hg⟩ := key
 unfold Oper.wp
 rw [hex, hrun]
 exact hn S μ _ w' (SExt.refl S) (SFresh.refl _ S) (MuStep.refl _ _ _) (hw.grow hg) (by simp only [V]; exact ⟨r, rfl, hr⟩) hg
theorem bodyQ.wl {fn : Func} {e : Exit} {k : Nat} {r : AV} {Γo : List Ob} {τ' : List (Nat × AV)} {Γ' : List Ob} (hw : WeakLe τ τ') (hd : DeadLe Γ Γ') (h : bodyQ P fn k r Γo e τ' Γ') : bodyQ P fn k r Γo e τ Γ := by
 obtain ⟨he, sel, hk, hid, hres, hlt, hl, hn, hs⟩ := h
 refine ⟨he, sel, hk, hid, fun S μ a w h1 h2 => hres S μ a w (h1.dead hd) fun t => WeakLe.look (h2 t) hw, hlt, hl, hn, fun i g' hg => ?_⟩
 obtain ⟨g, k1, k2, k3⟩ := hs i g' hg
 obtain ⟨g0, j1, j2, j3⟩ := hd.at k1
 refine ⟨g0, j1, j2.symm.trans k2, fun l hl' => ⟨(k3 l hl').1, ?_⟩⟩
 have := (k3 l hl').2
 rcases j3 with e | e
 ·rw [e] at this; cases this
 ·rw [← e]; exact this
end
end Go.AM

namespace Go.AM
section
variable {P : Program} {N : Nat} {o : Oper} {τ : List (Nat × AV)} {Γ : List Ob} {Q : PQ}
theorem wp_monoQ {a : Act} {w : World} {K : Act → World → Prop} {Q Q' : Exit → Act → World → Prop} (h : ∀ c a w, Q (.panic c) a w → Q' (.panic c) a w) (hl : LetsOut Q → LetsOut Q') (hh : o.wp P a w K Q) : o.wp P a w K Q' := by
 unfold Oper.wp at *
 generalize (execOp a.eval o).run P w = r at *
 cases r with
 | ok n w' =>
  cases n <;> simp only [Oper.upon] at hh ⊢ <;>
   first
    | exact hh
    | exact Calls.mono hh (fun e w'' he => by cases e <;> first | exact h _ _ _ he | exact hl he | exact he)
 | halt x w' => cases x <;> simp only [Oper.upon] at hh ⊢ <;> first | exact h _ _ _ hh | exact hh
def RAny (P : Program) (N : Nat) (all : Array Oper) (fuel : Nat) (listed : Array Bool) (τ : List (Nat × AV)) (Γ : List Ob) (Q : PQ) : Prop :=
 ∀ S0 μ0 w0 S μ a w, Inv S0 μ0 w0 N S μ τ Γ a w → wpAnyH P .any all (Post S0 μ0 w0 N (np Q)) (fun _ => True) fuel listed a w
def RAnys (P : Program) (N : Nat) (all : Array Oper) (fuel : Nat) (listed : Array Bool) (τ : List (Nat × AV)) (Γ : List Ob) (Q : PQ) : List Nat → Prop
 | [] => True
 | i :: l => (∃ o, all[i]? = some o ∧ ROps P N all [o] τ Γ (thenQ (fun τ Γ => RAny P N all fuel (listed.setIfInBounds i true) τ Γ Q) (np Q))) ∧ RAnys P N all fuel listed τ Γ Q l
theorem RAnys.mem {all : Array Oper} {fuel : Nat} {listed : Array Bool} : ∀ {l : List Nat}, RAnys P N all fuel listed τ Γ Q l → ∀ i ∈ l, ∃ o, all[i]? = some o ∧ ROps P N all [o] τ Γ (thenQ (fun τ Γ => RAny P N all fuel (listed.setIfInBounds i true) τ Γ Q) (np Q))
 | [], _, i, hi => by cases hi
 | j :: l, h, i, hi => by
  rcases List.mem_cons.1 hi with e | hi
  ·subst e; exact h.1
  ·exact RAnys.mem h.2 i hi
theorem RAny.more {all : Array Oper} {fuel : Nat} {listed : Array Bool} {i0 : Nat} {l : List Nat} (hr : Region.ready .any all listed = i0 :: l) (h : RAnys P N all fuel listed τ Γ Q (i0 :: l)) : RAny P N all (fuel + 1) listed τ Γ Q := by
 intro S0 μ0 w0 S μ a w hi
 unfold wpAnyH
 refine And.intro (fun e => by rw [hr] at e; cases e) (fun i hm => ?_)
 rw [hr] at hm
 obtain ⟨o, ho, hR⟩ := h.mem i hm
 have h0 := hR S0 μ0 w0 S S μ a w (SExt.refl S) hi
 have hnext : ∀ a w, Post S0 μ0 w0 N (thenQ (fun τ Γ => RAny P N all fuel (listed.setIfInBounds i true) τ Γ Q) (np Q)) .normal a w → wpAnyH P .any all (Post S0 μ0 w0 N (np Q)) (fun _ => True) fuel (listed.setIfInBounds i true) a w := by
  rintro a w ⟨S', μ', τ', Γ', hk, hi'⟩
  exact hk S0 μ0 w0 S' μ' a w hi'
 simp only [wpL] at h0
 unfold wpOp
 rw [ho]
 dsimp only
 split
 ·rename_i e
  rw [if_pos e] at h0
  refine .inl (wp_monoQ (Q := Post S0 μ0 w0 N (thenQ (fun τ Γ => RAny P N all fuel (listed.setIfInBounds i true) τ Γ Q) (np Q))) (fun c a w hc => hc) (fun hc => ?_) (Oper.wp_mono ?_ h0))
  ·simpa [LetsOut, Post, thenQ] using hc
  ·exact fun a w h => ⟨trivial, hnext a w h.2⟩
 ·rename_i e
  rw [if_neg e] at h0
  exact ⟨trivial, hnext _ _ h0⟩
end
end Go.AM

namespace Go.AM
section
variable {P : Program} {N : Nat} {τ τ' : List (Nat × AV)} {Γ Γ' : List Ob}
end
end Go.AM

namespace Go.AM
section
variable {P : Program} {N : Nat} {τ τ' : List (Nat × AV)} {Γ Γ' : List Ob}
end
end Go.AM

namespace Go.AM
section
variable {P : Program} {o : Oper} {τ : List (Nat × AV)}
end
end Go.AM

namespace Go.AM
section
variable {P : Program} {N : Nat} {τ : List (Nat × AV)} {Γ : List Ob} {Q : PQ} {o : Oper}
end
end Go.AM

namespace Go.AM
section
variable {P : Program} {o : Oper} {τ : List (Nat × AV)}
end
end Go.AM

namespace Go.AM
section
variable {P : Program} {o : Oper} {τ : List (Nat × AV)}
end
end Go.AM

namespace Go.AM
section
variable {P : Program} {o : Oper} {τ : List (Nat × AV)} {Γ : List Ob}
end
end Go.AM

namespace Go.AM
section
variable {P : Program} {o : Oper} {τ : List (Nat × AV)} {Γ : List Ob}
end
end Go.AM

namespace Go.AM
section
variable {P : Program} {o : Oper} {τ : List (Nat × AV)} {Γ : List Ob}
end
end Go.AM

namespace Go.AM
section
variable {P : Program} {N : Nat} {o : Oper} {τ : List (Nat × AV)} {Γ : List Ob} {Q : PQ}
end
end Go.AM

namespace Go.AM
section
variable {P : Program} {o : Oper} {τ : List (Nat × AV)} {Γ : List Ob}
def pk (a b : Int) : Value := .agg #[.int .i64 a, .int .i64 b]
structure PKey (P : Program) (k : TypeId) : Prop where
 chk : ∀ em a b w, (Instr.checkKey em 10000 k (pk a b)).run P w = .ok () w
 eq : ∀ a b c d w, (Op.equal k (pk a b) (pk c d)).run P w = .ok (decide (a = c ∧ b = d)) w
 und : ∃ fs, ∀ w, (underlying k).run P w = .ok (.struct fs) w
theorem PKey.of {k t1 t2 : TypeId} {f1 f2 : Field} (hf : P.fieldsOf k = #[f1, f2]) (hk : P.underlying k = some (.struct #[f1, f2])) (hp : P.stoodInHeld k = false) (n1 : f1.name ≠ "_") (n2 : f2.name ≠ "_")
  (o1 : f1.offset = 0) (o2 : f2.offset = 1) (e1 : f1.type = t1) (e2 : f2.type = t2) (u1 : P.underlying t1 = some (.int .i64)) (u2 : P.underlying t2 = some (.int .i64)) (a1 : ∀ w, (isAgg t1).run P w = .ok false w) (a2 : ∀ w, (isAgg t2).run P w = .ok false w) : PKey P k where
 chk em a b w := by
  have c1 : ∀ n x w, (Instr.checkKey em (n + 1) t1 (.int .i64 x)).run P w = .ok () w := fun n x w => by simp [Instr.checkKey, run_underlying u1]
  have c2 : ∀ n x w, (Instr.checkKey em (n + 1) t2 (.int .i64 x)).run P w = .ok () w := fun n x w => by simp [Instr.checkKey, run_underlying u2]
  rw [show (10000 : Nat) = 9998 + 1 + 1 from rfl, Instr.checkKey]
  simp only [Sem.run_bind, run_underlying hk, Result.andThen_ok, pk]
  simp [← Array.forIn_toList, part, n1, n2, o1, o2, e1, e2, a1, a2, c1, c2]
 eq a b c d w := by
  have hS : P.underlying k = some (.struct (P.fieldsOf k)) := by rw [hf]; exact hk
  have q1 : ∀ n x y w, (Op.equalIn (n + 1) t1 (.int .i64 x) (.int .i64 y)).run P w = .ok (x == y) w := fun n x y w => run_equalIn_int w n t1 .i64 .i64 x y u1
  have q2 : ∀ n x y w, (Op.equalIn (n + 1) t2 (.int .i64 x) (.int .i64 y)).run P w = .ok (x == y) w := fun n x y w => run_equalIn_int w n t2 .i64 .i64 x y u2
  show (Op.equalIn (9998 + 1 + 1) k (pk a b) (pk c d)).run P w = _
  unfold pk
  rw [run_equalIn_agg w (9998 + 1) k _ _ hS hp, hf]
  simp [Op.eqFields, n1, n2, o1, o2, e1, e2, part, a1, a2, q1, q2]
  by_cases h1 : a = c <;> by_cases h2 : b = d <;> simp [h1, h2]
 und := ⟨#[f1, f2], fun w => by simp [run_underlying hk]⟩
def mpf (e : Int × Int × F) : AV := .agg [.agg [.i64 e.1, .i64 e.2.1], .f32 e.2.2]
def mpc (L : List (Int × Int × F)) : List AV := L.map mpf ++ [.tup []]
def mget : List (Int × Int × F) → Int → Int → Option F
 | [], _, _ => none
 | (r, c, x) :: l, a, b => if a = r ∧ b = c then some x else mget l a b
def mput : List (Int × Int × F) → Int → Int → F → List (Int × Int × F)
 | [], a, b, y => [(a, b, y)]
 | (r, c, x) :: l, a, b, y => if a = r ∧ b = c then (a, b, y) :: l else (r, c, x) :: mput l a b y
def ME : List (Int × Int × F) → List MapEntry → Prop
 | [], [] => True
 | (r, c, x) :: l, e :: es => e.key = pk r c ∧ (∃ b, e.val = .float .f32 b ∧ FR .f32 b x) ∧ ME l es
 | _, _ => False
theorem vp_me {S : Snap} {μ : List Mu} : ∀ {L : List (Int × Int × F)} {es : List MapEntry}, VP S μ (mpc L) (es.map mval ++ [.tuple #[]]) ↔ ME L es
 | [], [] => by simp [mpc, VP, V, VL, ME]
 | [], e :: es => by simp [mpc, VP, V, ME, mval]
 | x :: L, [] => by
  obtain ⟨r, c, x⟩ := x
  simp [mpc, VP, V, ME, mpf]
 | (r, c, x) :: L, e :: es => by
  have ih := vp_me (S := S) (μ := μ) (L := L) (es := es)
  simp only [mpc] at ih
  simp only [mpc, List.map_cons, List.cons_append, VP, ME, ih]
  have : V S μ (mpf (r, c, x)) (mval e) ↔ e.key = pk r c ∧ ∃ b, e.val = .float .f32 b ∧ FR .f32 b x := by
   simp only [mpf, mval, V]
   constructor
   ·rintro ⟨cs, h1, h2⟩
    cases h1
    simp only [VL] at h2
    obtain ⟨⟨cs, h3, h4⟩, h5, _⟩ := h2
    refine ⟨?_, h5⟩
    obtain ⟨l⟩ := cs
    match l, h4 with
    | [u, v], h4 => simp only [VL, V] at h4; obtain ⟨rfl, rfl, _⟩ := h4; exact h3
    | [], h4 => simp only [VL] at h4
    | [_], h4 => simp only [VL] at h4; exact h4.2.elim
    | _ :: _ :: _ :: _, h4 => simp only [VL] at h4; exact h4.2.2.elim
   ·rintro ⟨h1, h2⟩
    refine ⟨_, rfl, ?_⟩
    simp only [VL]
    exact ⟨⟨_, h1, by simp [VL, V]⟩, h2, trivial⟩
  rw [this]
  exact and_assoc
theorem run_findKey {k : TypeId} (K : PKey P k) (x : Value) (es : List MapEntry) (w : World) : (Instr.findKey k x es).run P w = (Instr.findAsking k x es 0).run P w := by
 obtain ⟨fs, hu⟩ := K.und
 unfold Instr.findKey
 simp only [Sem.run_bind, hu, Result.andThen_ok]
 cases es with
 | nil => simp [Instr.findNow, Instr.findAsking]
 | cons e es => simp [Instr.findNow, Instr.sameNow]
theorem mfind {k : TypeId} (K : PKey P k) (a b : Int) (w : World) : ∀ {L : List (Int × Int × F)} {es : List MapEntry} (i : Nat), ME L es →
  (mget L a b = none ∧ (Instr.findAsking k (pk a b) es i).run P w = .ok none w) ∨
  ∃ x j e, mget L a b = some x ∧ (Instr.findAsking k (pk a b) es i).run P w = .ok (some (i + j, e.val)) w ∧ es[j]? = some e ∧ e.key = pk a b ∧ ∃ bb, e.val = .float .f32 bb ∧ FR .f32 bb x
 | [], [], i, _ => .inl ⟨rfl, by simp [Instr.findAsking]⟩
 | [], _ :: _, _, h => h.elim
 | _ :: _, [], _, h => by simp [ME] at h
 | (r, c, x) :: L, e :: es, i, h => by
  simp only [ME] at h
  obtain ⟨h1, h2, h3⟩ := h
  by_cases hk : a = r ∧ b = c
  ·refine .inr ⟨x, 0, e, by simp [mget, hk], ?_, rfl, by rw [h1, hk.1, hk.2], h2⟩
   simp [Instr.findAsking, h1, K.eq, hk]
  ·have hf : (Instr.findAsking k (pk a b) (e :: es) i).run P w = (Instr.findAsking k (pk a b) es (i + 1)).run P w := by
    simp [Instr.findAsking, h1, K.eq, hk]
   rcases mfind K a b w (i + 1) h3 with ⟨k1, k2⟩ | ⟨y, j, e', k1, k2, k3, k4⟩
   ·exact .inl ⟨by simp [mget, hk, k1], by rw [hf, k2]⟩
   ·exact .inr ⟨y, j + 1, e', by simp [mget, hk, k1], by rw [hf, k2]; congr 3; omega, by simpa using k3, k4⟩
theorem own_map {S : Snap} {μ : List Mu} {w : World} (hw : WI S μ Γ w) {p ver : Nat} {L : List (Int × Int × F)} (hp : Γ[p]? = some ⟨ver, some (mpc L)⟩) {m : Mu} (hm : μ[p]? = some m) {b : Nat} (hb : m.blk = some b) (hmp : m.mp = true) :
  ∃ es clk, w.heap[b]? = some (.map es clk) ∧ BornOk es.toList clk ∧ ME L es.toList ∧ S b = none := by
 obtain ⟨cs, T, e1, e2, e3, e4⟩ := own_any hw hp hm hb
 unfold Img at e2
 rw [hmp] at e2
 obtain ⟨es, clk, rfl, k1, k2⟩ := e2
 rw [k2] at e3
 exact ⟨es, clk, e1, k1, vp_me.1 e3, e4⟩
theorem run_getObj {w : World} {b : Nat} {es : Array MapEntry} {clk : Nat} (h : w.heap[b]? = some (.map es clk)) : (getObj b).run P w = .ok (.map es clk) w := MapKept.run_getObj_map h
theorem TOp.mkMap {t : TypeId} (p : Nat) {g : Ob} (hp : Γ[p]? = some g) (ho : o.op = .makeMap t none) : TOp P o τ Γ (.mref p (g.ver + 1)) [(p, [.tup []])] := by
 intro S μ Γ2 a w _ hd hw h next Q hn
 unfold Oper.wp
 have : (execOp a.eval o).run P w = .ok (.value (.map (some w.heap.size))) (w.alloc (.map #[] 0)) := by
  simp [execOp, ho, Instr.makeMap]
 rw [this]
 have hG : Grow w (w.alloc (.map #[] 0)) := ⟨by simp, fun b hb => heap_alloc_old w _ hb, rfl, rfl, rfl⟩
 have hp2 : Γ2[p]? = some g := (hd (p, [.tup []]) (by simp)).trans hp
 obtain ⟨h1, h2⟩ := hw.fill_any hG (l := [.tup []]) (mn := ⟨g.ver + 1, some w.heap.size, 0, 0, true⟩) (cs := #[.tuple #[]]) hp2 rfl (fun b hb => by cases hb; exact ⟨Nat.le_refl _, _, heap_alloc_new w _, #[], 0, rfl, ⟨by simp, by simp⟩, by simp⟩) (by simp) (by simp [VP, V, VL])
 refine hn S _ _ _ (SExt.refl S) (SFresh.refl _ S) h2 (by rw [fillOb_one hp2]; exact h1) ?_ hG
 have hml : p < μ.length := by rw [hw.len]; exact lt_of_getElem? hp2
 simp only [V]
 exact ⟨_, _, by simp [hml]; rfl, Nat.le_refl _, rfl, fun _ => ⟨rfl, rfl⟩⟩
theorem TOp.mget {t k e : TypeId} {x y : Operand} {p ver : Nat} {L : List (Int × Int × F)} {a b : Int} {r : F} (ht : ∀ w, (underlying t).run P w = .ok (.map k e) w) (K : PKey P k) (hz : ∀ w, (zeroValue e).run P w = .ok (.float .f32 0) w) (hz' : ∀ S μ, V S μ (.f32 (some 0)) (.float .f32 0))
  (ho : o.op = .lookup t x y false) (hx : ev τ x = .mref p ver) (hy : ev τ y = .agg [.i64 a, .i64 b]) (hp : Γ[p]? = some ⟨ver, some (mpc L)⟩) (hr : (mget L a b).getD (some 0) = r) : TOp P o τ Γ (.f32 r) [] := by
 intro S μ Γ2 ac w hL _ hw h next Q hn
 have k1 := opnd h (x := x) (by simp [ho, Op.operands]) hx
 have k2 := opnd h (x := y) (by simp [ho, Op.operands]) hy
 simp only [V] at k1 k2
 obtain ⟨m, bk, h1, h2, h3, h4⟩ := k1
 have hp2 := hL.2 p ver _ hp
 obtain ⟨hb, hmp⟩ := h4 (hw.ver p _ m hp2 h1)
 obtain ⟨es, clk, e1, e2, e3, e4⟩ := own_map hw hp2 h1 hb hmp
 have hk : ac.eval y = pk a b := by
  obtain ⟨⟨l⟩, k3, k4⟩ := k2
  match l, k4 with
  | [u, v], k4 => simp only [VL, V] at k4; obtain ⟨rfl, rfl, _⟩ := k4; exact k3
  | [], k4 => simp only [VL] at k4
  | [_], k4 => simp only [VL] at k4; exact k4.2.elim
  | _ :: _ :: _ :: _, k4 => simp only [VL] at k4; exact k4.2.2.elim
 unfold Oper.wp
 rcases mfind K a b w 0 e3 with ⟨q1, q2⟩ | ⟨v, j, en, q1, q2, q3, q4, q5⟩
 ·have : (execOp ac.eval o).run P w = .ok (.value (.float .f32 0)) w := by
   simp [execOp, ho, h3, hk, Instr.lookup, ht, run_getObj e1, K.chk, run_findKey K, q2, hz]
  rw [this]
  refine hn S μ _ w (SExt.refl S) (SFresh.refl _ S) (MuStep.refl _ _ _) hw ?_ (Grow.refl w)
  rw [q1] at hr
  simp at hr
  subst hr
  exact hz' S μ
 ·have : (execOp ac.eval o).run P w = .ok (.value en.val) w := by
   simp [execOp, ho, h3, hk, Instr.lookup, ht, run_getObj e1, K.chk, run_findKey K, q2]
  rw [this]
  refine hn S μ _ w (SExt.refl S) (SFresh.refl _ S) (MuStep.refl _ _ _) hw ?_ (Grow.refl w)
  rw [q1] at hr
  simp at hr
  subst hr
  simpa [V] using q5
def remap (w : World) (b : Nat) (es : Array MapEntry) (clk : Nat) : World := { w with heap := w.heap.setIfInBounds b (.map es clk) }
theorem remap_at {w : World} {b : Nat} {o : Obj} (h : w.heap[b]? = some o) (es : Array MapEntry) (clk : Nat) : (remap w b es clk).heap[b]? = some (.map es clk) := by
 have := (Array.getElem?_eq_some_iff.1 h).1
 simp [remap, this]
theorem remap_ne {w : World} {b b' : Nat} (es : Array MapEntry) (clk : Nat) (h : b ≠ b') : (remap w b es clk).heap[b']? = w.heap[b']? := by
 simp [remap, Array.getElem?_setIfInBounds_ne h]
theorem WI.remap {S : Snap} {μ : List Mu} {w : World} (h : WI S μ Γ w) {p ver b : Nat} {l : List AV} {m : Mu} {L : List (Int × Int × F)} {es : Array MapEntry} {clk : Nat} (hp : Γ[p]? = some ⟨ver, some l⟩) (hm : μ[p]? = some m) (hb : m.blk = some b) (hmp : m.mp = true)
  (hbn : BornOk es.toList clk) (hl : ME L es.toList) : WI S μ (Γ.set p ⟨ver, some (mpc L)⟩) (remap w b es clk) := by
 have hpl := lt_of_getElem? hp
 obtain ⟨c0, T0, e0, e1, e2, e3⟩ := own_any h hp hm hb
 have hSne : ∀ b' c, S b' = some c → b ≠ b' := fun b' c hs e => by subst e; rw [e3] at hs; cases hs
 refine ⟨fun b' c hs => ?_, by simp [h.len], ?_, ?_, ?_⟩
 ·rw [remap_ne _ _ (hSne b' c hs)]; exact h.snap b' c hs
 ·intro i g m1 hg hm1
  by_cases e : p = i
  ·subst e; simp [hpl] at hg; subst hg; exact h.ver p ⟨ver, some l⟩ m1 hp hm1
  ·rw [List.getElem?_set_ne e] at hg; exact h.ver i g m1 hg hm1
 ·intro i v1 l1 m1 hg hm1
  by_cases e : p = i
  ·subst e
   simp [hpl] at hg
   obtain ⟨_, rfl⟩ := hg
   rw [hm] at hm1; simp at hm1; subst hm1
   unfold OwnAt
   rw [hb]
   refine ⟨e3, (es.toList.map mval ++ [Value.tuple #[]]).toArray, _, remap_at e0 es clk, ?_, by simpa using vp_me.2 hl⟩
   unfold Img
   rw [hmp]
   exact ⟨es, clk, rfl, hbn, by simp⟩
  ·rw [List.getElem?_set_ne e] at hg
   have h1 := h.own i v1 l1 m1 hg hm1
   unfold OwnAt at h1 ⊢
   split at h1
   ·exact h1
   ·rename_i b1 hb1
    obtain ⟨k1, c1, T1, k2, k3⟩ := h1
    have hne : b ≠ b1 := fun eb => by
     subst eb
     exact e (h.sep p i _ _ m m1 b hp rfl hg rfl hm hm1 hb hb1)
    exact ⟨k1, c1, T1, by rw [remap_ne _ _ hne]; exact k2, k3⟩
 ·intro i i' g g' m1 m1' b1 hg hs hg' hs' hm1 hm1' hb1 hb1'
  have key : ∀ {i : Nat} {g : Ob}, (Γ.set p ⟨ver, some (mpc L)⟩)[i]? = some g → g.cells.isSome = true → ∃ g0, Γ[i]? = some g0 ∧ g0.cells.isSome = true := by
   intro i g hg hs
   by_cases e : p = i
   ·subst e; exact ⟨_, hp, rfl⟩
   ·rw [List.getElem?_set_ne e] at hg; exact ⟨g, hg, hs⟩
  obtain ⟨g0, k1, k2⟩ := key hg hs
  obtain ⟨g0', k1', k2'⟩ := key hg' hs'
  exact h.sep i i' g0 g0' m1 m1' b1 k1 k2 k1' k2' hm1 hm1' hb1 hb1'
theorem ME.put {L : List (Int × Int × F)} {es : List MapEntry} {a b : Int} {x : F} {v : Value} {clk : Nat} (hv : ∃ bb, v = .float .f32 bb ∧ FR .f32 bb x) : ME L es → mget L a b = none → ME (mput L a b x) (es ++ [{ key := pk a b, val := v, born := clk }]) := by
 induction L generalizing es with
 | nil => intro h _; cases es with
  | nil => exact ⟨rfl, hv, trivial⟩
  | cons _ _ => exact h.elim
 | cons y L ih =>
  obtain ⟨r, c, y⟩ := y
  intro h hg
  cases es with
  | nil => simp [ME] at h
  | cons e es =>
   by_cases hk : a = r ∧ b = c
   ·simp [mget, hk] at hg
   ·simp [mget, hk] at hg
    simp only [ME] at h
    simp only [mput, hk, if_false, List.cons_append, ME]
    exact ⟨h.1, h.2.1, ih h.2.2 hg⟩
theorem ME.mod {L : List (Int × Int × F)} {es : List MapEntry} {a b : Int} {x : F} {v : Value} (hv : ∃ bb, v = .float .f32 bb ∧ FR .f32 bb x) : ∀ {j : Nat} {e : MapEntry}, ME L es → es[j]? = some e → e.key = pk a b → (∀ j' e', j' < j → es[j']? = some e' → e'.key ≠ pk a b) →
  ME (mput L a b x) (es.modify j fun e => { e with key := pk a b, val := v }) := by
 induction L generalizing es with
 | nil => intro j e h hj _ _; cases es with
  | nil => simp at hj
  | cons _ _ => exact h.elim
 | cons y L ih =>
  obtain ⟨r, c, y⟩ := y
  intro j e h hj hk hf
  cases es with
  | nil => simp [ME] at h
  | cons e0 es =>
   simp only [ME] at h
   cases j with
   | zero =>
    simp at hj; subst hj
    have : a = r ∧ b = c := by
     have := h.1.symm.trans hk
     simp [pk] at this
     exact ⟨this.1.symm, this.2.symm⟩
    simp only [mput, this, and_self, if_true, List.modify_zero_cons, ME]
    exact ⟨by first | rfl | trivial, hv, h.2.2⟩
   | succ j =>
    have hne : ¬ (a = r ∧ b = c) := fun hh => hf 0 e0 (by omega) rfl (by rw [h.1, hh.1, hh.2])
    simp only [mput, hne, if_false, List.modify_succ_cons, ME]
    exact ⟨h.1, h.2.1, ih h.2.2 (by simpa using hj) hk fun j' e' hj' he' => hf (j' + 1) e' (by omega) (by simpa using he')⟩
theorem mfind_first {k : TypeId} (K : PKey P k) (a b : Int) (w : World) : ∀ {L : List (Int × Int × F)} {es : List MapEntry} (i : Nat) {j : Nat} {v : Value}, ME L es → (Instr.findAsking k (pk a b) es i).run P w = .ok (some (i + j, v)) w → ∀ j' e', j' < j → es[j']? = some e' → e'.key ≠ pk a b
 | [], [], i, j, v, _, h => by simp
 | [], _ :: _, _, _, _, h, _ => h.elim
 | _ :: _, [], _, _, _, h, _ => by simp [ME] at h
 | (r, c, x) :: L, e :: es, i, j, v, h, hr => by
  simp only [ME] at h
  by_cases hk : a = r ∧ b = c
  ·have hf : (Instr.findAsking k (pk a b) (e :: es) i).run P w = .ok (some (i, e.val)) w := by
    simp [Instr.findAsking, h.1, K.eq, hk]
   rw [hf] at hr
   simp at hr
   intro j' e' hj'
   omega
  ·have hf : (Instr.findAsking k (pk a b) (e :: es) i).run P w = (Instr.findAsking k (pk a b) es (i + 1)).run P w := by
    simp [Instr.findAsking, h.1, K.eq, hk]
   rw [hf] at hr
   intro j' e' hj' he'
   cases j' with
   | zero =>
    simp at he'; subst he'
    rw [h.1]
    intro hh
    simp [pk] at hh
    exact hk ⟨hh.1.symm, hh.2.symm⟩
   | succ j' => exact mfind_first K a b w (i + 1) (j := j - 1) h.2.2 (by rw [hr]; congr 3; omega) j' e' (by omega) (by simpa using he')
theorem BornOk.push {es : List MapEntry} {clk : Nat} (h : BornOk es clk) (k v : Value) : BornOk (es ++ [{ key := k, val := v, born := clk }]) (clk + 1) := by
 refine ⟨List.pairwise_append.2 ⟨h.1, by simp, fun a ha b hb => ?_⟩, fun e he => ?_⟩
 ·simp at hb; subst hb; exact h.2 a ha
 ·rcases List.mem_append.1 he with he | he
  ·have := h.2 e he; omega
  ·simp at he; subst he; simp
theorem BornOk.mod {es : List MapEntry} {clk : Nat} (h : BornOk es clk) (j : Nat) (k v : Value) : BornOk (es.modify j fun e => { e with key := k, val := v }) clk := by
 have hb : (es.modify j fun e => { e with key := k, val := v }).map (·.born) = es.map (·.born) := by
  apply List.ext_getElem?
  intro i
  simp only [List.getElem?_map, List.getElem?_modify]
  cases es[i]? with
  | none => simp
  | some e => by_cases e' : j = i <;> simp [e']
 refine ⟨?_, fun e he => ?_⟩
 ·have := h.1
  rw [← List.pairwise_map (f := fun e : MapEntry => e.born) (R := (· < ·))] at this ⊢
  rw [hb]
  exact this
 ·have : e.born ∈ (es.modify j fun e => { e with key := k, val := v }).map (·.born) := List.mem_map_of_mem he
  rw [hb] at this
  obtain ⟨e', h1, h2⟩ := List.mem_map.1 this
  rw [← h2]
  exact h.2 e' h1
theorem run_stays (a b : Int) (w : World) : (Instr.keyThatStays (pk a b) (pk a b)).run P w = .ok (pk a b) w := by
 have : Instr.sameBits 10000 (pk a b) (pk a b) = true := by
  rw [show (10000 : Nat) = 9998 + 1 + 1 from rfl]
  simp [pk, Instr.sameBits]
 simp [Instr.keyThatStays, this]
theorem ROp.mput {N : Nat} {t k e : TypeId} {x y z : Operand} {p ver : Nat} {L : List (Int × Int × F)} {a b : Int} {v : F} {K : List (Nat × AV) → List Ob → Prop} (ht : ∀ w, (underlying t).run P w = .ok (.map k e) w) (hK : PKey P k) (ho : o.op = .mapUpdate t x y z) (hd : o.dst = none)
  (hx : ev τ x = .mref p ver) (hy : ev τ y = .agg [.i64 a, .i64 b]) (hz : ∀ S μ u, V S μ (ev τ z) u → V S μ (.f32 v) u) (hp : Γ[p]? = some ⟨ver, some (mpc L)⟩) (hQ : K τ (Γ.set p ⟨ver, some (mpc (mput L a b v))⟩)) : ROp P N o τ Γ K := by
 intro S0 μ0 w0 S μ ac w hi next Q hnx
 have hw := hi.wi
 have k1 := hi.ci.ev x
 have k2 := hi.ci.ev y
 rw [hx] at k1
 rw [hy] at k2
 have k3 := hz _ _ _ (hi.ci.ev z)
 simp only [V] at k1 k2 k3
 obtain ⟨m, bk, h1, h2, h3, h4⟩ := k1
 obtain ⟨hb, hmp⟩ := h4 (hw.ver p _ m hp h1)
 obtain ⟨es, clk, e1, e2, e3, e4⟩ := own_map hw hp h1 hb hmp
 have hk : ac.eval y = pk a b := by
  obtain ⟨⟨l⟩, k3, k4⟩ := k2
  match l, k4 with
  | [u, v], k4 => simp only [VL, V] at k4; obtain ⟨rfl, rfl, _⟩ := k4; exact k3
  | [], k4 => simp only [VL] at k4
  | [_], k4 => simp only [VL] at k4; exact k4.2.elim
  | _ :: _ :: _ :: _, k4 => simp only [VL] at k4; exact k4.2.2.elim
 have hput : ac.put o.dst undef = ac := by rw [hd]; rfl
 obtain ⟨es', clk', hrun, hb', hl'⟩ : ∃ es' clk', (execOp ac.eval o).run P w = .ok .skip (remap w bk es' clk') ∧ BornOk es'.toList clk' ∧ ME (AM.mput L a b v) es'.toList := by
  rcases mfind hK a b w 0 e3 with ⟨q1, q2⟩ | ⟨u, j, en, q1, q2, q3, q4, q5⟩
  ·refine ⟨es.push { key := pk a b, val := ac.eval z, born := clk }, clk + 1, ?_, ?_, ?_⟩
   ·simp [execOp, ho, h3, hk, Instr.mapUpdate, ht, run_getObj e1, hK.chk, run_findKey hK, q2, MapKept.run_setObj_map _ e1, remap]
   ·simpa using e2.push _ _
   ·simpa using e3.put k3 q1
  ·have hj := hK
   have hge : es[j]? = some en := by simpa using q3
   refine ⟨es.modify j fun e => { e with key := pk a b, val := ac.eval z }, clk, ?_, ?_, ?_⟩
   ·simp [execOp, ho, h3, hk, Instr.mapUpdate, ht, run_getObj e1, hK.chk, run_findKey hK, q2, hge, q4, run_stays, MapKept.run_setObj_map _ e1, remap]
   ·simpa using e2.mod j _ _
   ·simpa using e3.mod k3 q3 q4 (mfind_first hK a b w 0 e3 q2)
 unfold Oper.wp
 rw [hrun, Oper.upon_skip]
 have hw' := hw.remap hp h1 hb hmp hb' hl'
 refine hnx S μ undef _ τ _ (SExt.refl S) hQ ?_
 rw [hput]
 refine ⟨⟨hi.fr.ext, hi.fr.le, hi.fr.new, ?_, by simpa [remap] using hi.fr.size, hi.fr.os, hi.fr.tape, hi.fr.output, hi.fr.sf⟩, hw', hi.ci, hi.tsz, hi.dfr⟩
 intro b' hb' hno
 have hne : bk ≠ b' := by
  intro e
  subst e
  rcases hi.fr.new p m bk h1 hb with ⟨m0, q1, q2⟩ | q
  ·exact hno p m0 q1 q2
  ·omega
 rw [remap_ne _ _ hne]
 exact hi.fr.keep b' hb' hno
theorem ROps.mput {N : Nat} {all : Array Oper} {rest : List Oper} {Q : PQ} {t k e : TypeId} {x y z : Operand} {p ver : Nat} {L L' : List (Int × Int × F)} {a b : Int} {v : F} {Γ' : List Ob} (hw : wantT all τ o = some true) (ht : ∀ w, (underlying t).run P w = .ok (.map k e) w) (hK : PKey P k) (ho : o.op = .mapUpdate t x y z) (hd : o.dst = none)
  (hx : ev τ x = .mref p ver) (hy : ev τ y = .agg [.i64 a, .i64 b]) (hz : ALe (ev τ z) (.f32 v)) (hp : Γ[p]? = some ⟨ver, some (mpc L)⟩) (hL : AM.mput L a b v = L') (hΓ : Γ.set p ⟨ver, some (mpc L')⟩ = Γ') (h : ROps P N all rest τ Γ' Q) : ROps P N all (o :: rest) τ Γ Q :=
 ROps.op hw (ROp.mput ht hK ho hd hx hy hz hp (by subst hL; subst hΓ; exact h))
theorem lt_mpc (k : Nat) (L : List (Int × Int × F)) : AV.lts k (mpc L) = true := by
 simp only [AV.lts_eq_all, mpc, List.all_append, List.all_map, Bool.and_eq_true, List.all_eq_true]
 exact ⟨fun e _ => rfl, by simp [AV.lt, AV.lts]⟩
theorem noss_mpc (L : List (Int × Int × F)) : AV.noss (mpc L) = true := by
 unfold mpc
 induction L with
 | nil => rfl
 | cons a L ih => simp only [List.map_cons, List.cons_append, AV.noss, ih, Bool.and_true]; rfl
theorem rens_mpc {σ : Nat → Nat × Nat} {L : List (Int × Int × F)} : AV.rens σ (mpc L) = mpc L := AV.rens_of_lt0 σ _ (lt_mpc 0 L)
theorem SelL.map {sel0 sel : List (Nat × Nat)} {p s v : Nat} {L : List (Int × Int × F)} {Γ' : List Ob} (hp : Γ[p]? = some ⟨v + s, some (mpc L)⟩) (h : SelL Γ sel0 sel Γ') : SelL Γ sel0 ((p, s) :: sel) (⟨v, some (mpc L)⟩ :: Γ') :=
 ⟨⟨hp.trans (by rw [rens_mpc]), lt_mpc _ L⟩, h⟩
theorem SelL.map0 {sel0 sel : List (Nat × Nat)} {p s : Nat} {L : List (Int × Int × F)} {Γ' : List Ob} (hp : Γ[p]? = some ⟨s, some (mpc L)⟩) (h : SelL Γ sel0 sel Γ') : SelL Γ sel0 ((p, s) :: sel) (⟨0, some (mpc L)⟩ :: Γ') :=
 SelL.map (by rw [Nat.zero_add]; exact hp) h
end
end Go.AM

namespace Go.AM
open Go.RowKit Go.ChangeShapes
def snapF (w : World) : Nat → Option (Array Value) := fun b => match w.heap[b]? with
 | some (.cells cs _ _) => some cs
 | _ => none
def GlobsIn (w : World) : Prop := GP (snapF w)
def snapOf (w : World) (hg : GlobsIn w) : Snap := ⟨snapF w, hg⟩
theorem snapOf_some {w : World} {hg : GlobsIn w} {b : Nat} {cs : Array Value} (h : snapOf w hg b = some cs) : ∃ T m, w.heap[b]? = some (.cells cs T m) := by
 simp only [snapOf, snapF] at h
 split at h
 ·rename_i cs' T m e; simp at h; subst h; exact ⟨T, m, e⟩
 ·cases h
theorem snapOf_wi (w : World) (hg : GlobsIn w) : WI (snapOf w hg) [] [] w := ⟨fun _ _ h => snapOf_some h, rfl, by simp, by simp, by simp⟩
theorem law_run {P : Program} {f : FuncId} {A : List AV} {vs : Array Value} {W : World} {hg : GlobsIn W} (hev : Ev P f A [] (.b true) []) (hA : VL (snapOf W hg) [] A vs.toList) : Calls P f vs W fun e w' => e = .returned (.bool true) ∧ Below W.heap.size W w' := by
 refine (hev (snapOf W hg) [] W vs (snapOf_wi W hg) hA).mono ?_
 rintro e w' ⟨v, S', μ', rfl, hv, _, hfr⟩
 simp only [V] at hv
 subst hv
 exact ⟨rfl, hfr.os, hfr.tape, hfr.output, hfr.size, fun k hk => hfr.keep k hk (fun i m hi => by simp at hi)⟩
theorem VLn {S : Snap} {μ : List Mu} : VL S μ [] [] := by simp only [VL]
theorem VLc {S : Snap} {μ : List Mu} {a : AV} {v : Value} {l : List AV} {vs : List Value} (h : V S μ a v) (k : VL S μ l vs) : VL S μ (a :: l) (v :: vs) := by simp only [VL]; exact ⟨h, k⟩
def Op1 (P : Program) (t : TypeId) (G : List AV → Prop) : Prop :=
 ∀ (H : Type) (enc : TypeId × Value → H) (w : World) (hg : GlobsIn w) (base : Nat) (spare : Nat → Bool) (held : Bool) (fuel : Nat) (cs : List Value) (x : DataW H × List MemPlace), DataW.trod enc P w base spare held fuel t cs = some x → ∃ l, G l ∧ VL (snapOf w hg) [] l cs
theorem VL.single {S : Snap} {μ : List Mu} {a : AV} {v : Value} (h : V S μ a v) : VL S μ [a] [v] := by simp only [VL]; exact ⟨h, trivial⟩
theorem VL.single_inv {S : Snap} {μ : List Mu} {a : AV} {vs : List Value} (h : VL S μ [a] vs) : ∃ v, vs = [v] ∧ V S μ a v := by
 match vs, h with
 | [], h => simp only [VL] at h
 | [v], h => simp only [VL] at h; exact ⟨v, rfl, h.1⟩
 | _ :: _ :: _, h => simp only [VL] at h; exact absurd h.2 (by simp)
theorem Op1.int {P : Program} {t : TypeId} {k : IntKind} (ht : P.underlying t = some (.int k)) : Op1 P t (fun l => ∃ n : Int, (Lit.int k n).wf = true ∧ l = [.x (.int k n)]) := by
 intro H enc w hg base spare held fuel cs x h
 obtain ⟨n, rfl, _, hw⟩ := DataW.trod_int ht h
 exact ⟨_, ⟨n, hw, rfl⟩, VL.single (by simp only [V])⟩
def FOk (k : FloatKind) (c : F) : Prop := ∃ b, FR k b c
theorem FR.any {k : FloatKind} {b : Nat} (h : b < 2 ^ k.format.width) : ∃ c : F, FR k b c := by
 cases hn : (k.format.read b).isNaN with
 | true => exact ⟨none, h, hn⟩
 | false => exact ⟨some b, rfl, h, hn⟩
theorem trod_float {H : Type} {enc : TypeId × Value → H} {P : Program} {w : World} {base : Nat} {spare : Nat → Bool} {held : Bool} {fuel : Nat} {t : TypeId} {cs : List Value} {x : DataW H × List MemPlace} {k : FloatKind} (ht : P.underlying t = some (.float k)) (h : DataW.trod enc P w base spare held fuel t cs = some x) :
  ∃ b, cs = [.float k b] ∧ (Lit.float k b).wf = true := by
 cases fuel with
 | zero => simp [DataW.trod] at h
 | succ n =>
  unfold DataW.trod at h
  rw [ht] at h
  split at h <;> simp_all
theorem wf_float {k : FloatKind} {b : Nat} (h : (Lit.float k b).wf = true) : b < 2 ^ k.format.width := by
 cases k
 ·have : b < 4294967296 := by simpa [Lit.wf, FloatKind.has] using h
  exact this
 ·have : b < 18446744073709551616 := by simpa [Lit.wf, FloatKind.has] using h
  exact this
theorem Op1.float {P : Program} {t : TypeId} {k : FloatKind} (ht : P.underlying t = some (.float k)) : Op1 P t (fun l => ∃ c : F, FOk k c ∧ l = [.f k c]) := by
 intro H enc w hg base spare held fuel cs x h
 obtain ⟨b, rfl, hw⟩ := trod_float ht h
 obtain ⟨c, hc⟩ := FR.any (wf_float hw)
 exact ⟨_, ⟨c, ⟨b, hc⟩, rfl⟩, VL.single (by simp only [V]; exact ⟨b, rfl, hc⟩)⟩
theorem exists_list {α : Type} {Q : Nat → α → Prop} : ∀ (n : Nat), (∀ i, i < n → ∃ z, Q i z) → ∃ L : List α, L.length = n ∧ ∀ i z, L[i]? = some z → Q i z
 | 0, _ => ⟨[], rfl, by simp⟩
 | n + 1, h => by
  obtain ⟨L, h1, h2⟩ := exists_list n (fun i hi => h i (by omega))
  obtain ⟨z, hz⟩ := h n (by omega)
  refine ⟨L ++ [z], by simp [h1], fun i y hy => ?_⟩
  rcases Nat.lt_or_ge i L.length with hi | hi
  ·rw [List.getElem?_append_left hi] at hy; exact h2 i y hy
  ·rw [List.getElem?_append_right hi] at hy
   have := lt_of_getElem? hy
   simp at this
   have e : i = n := by omega
   subst e
   rw [h1] at hy
   simp at hy
   subst hy; exact hz
theorem VP.of_each {α : Type} {S : Snap} {μ : List Mu} {f : α → AV} : ∀ (L : List α) (vs : List Value), (∀ (i : Nat) (z : α), L[i]? = some z → ∃ c, vs[i]? = some c ∧ V S μ (f z) c) → VP S μ (L.map f) vs
 | [], _, _ => by simp only [List.map_nil, VP]
 | z :: L, vs, h => by
  obtain ⟨c, h1, h2⟩ := h 0 z rfl
  cases vs with
  | nil => simp at h1
  | cons v vs =>
   simp at h1
   subst h1
   simp only [List.map_cons, VP]
   exact ⟨h2, VP.of_each L vs fun i y hy => by simpa using h (i + 1) y (by simpa using hy)⟩
theorem Op1.slice {α : Type} {P : Program} {t e : TypeId} {f : α → AV} {good : α → Prop} (ht : P.underlying t = some (.slice e)) (hc : P.cellsOf e = 1) (he : Op1 P e (fun l => ∃ z, good z ∧ l = [f z])) :
  Op1 P t (fun l => ∃ L : List α, ((∀ z ∈ L, good z) ∧ L.length ≤ maxLen) ∧ l = [.sl L.length (L.map f)]) := by
 intro H enc w hg base spare held fuel cs x h
 rcases DataW.trod_slice ht h with ⟨rfl, _⟩ | ⟨a, len, cap, elems, rest, n, rfl, rfl, _, hb, hl, hm, hlen, hel, _, _⟩
 ·exact ⟨_, ⟨[], ⟨by simp, by simp⟩, rfl⟩, VL.single (by simp only [V]; exact ⟨none, 0, rfl, Nat.le_refl _, .inl rfl⟩)⟩
 ·have each : ∀ i, i < len → ∃ z, good z ∧ ∃ c, w.cell? (a.add i) = some c ∧ V (snapOf w hg) [] (f z) c := by
   intro i hi
   have h1 := hel i hi
   have h2 : ∃ y, elems[i]? = some y := getElem?_of_lt (by omega)
   obtain ⟨y, hy⟩ := h2
   rw [hy, hc, Nat.mul_one, Option.bind_eq_some_iff] at h1
   obtain ⟨cs', k1, k2⟩ := h1
   obtain ⟨l, ⟨z, hz, rfl⟩, k3⟩ := he H enc w hg base spare held n cs' y k2
   obtain ⟨c, rfl, k4⟩ := VL.single_inv k3
   exact ⟨z, hz, c, cell_of_cells?_one k1, k4⟩
  obtain ⟨L, hL, hLQ⟩ := exists_list (Q := fun i z => good z ∧ ∃ c, w.cell? (a.add i) = some c ∧ V (snapOf w hg) [] (f z) c) len each
  refine ⟨_, ⟨L, ⟨fun z hz => ?_, by omega⟩, rfl⟩, VL.single ?_⟩
  ·obtain ⟨i, hi⟩ := List.getElem?_of_mem hz
   exact (hLQ i z hi).1
  ·simp only [V]
   refine ⟨some a, cap, by rw [hL], by omega, ?_⟩
   by_cases h0 : len = 0
   ·left
    have : L = [] := List.eq_nil_of_length_eq_zero (by omega)
    rw [this]; rfl
   ·right
    obtain ⟨z, _, c, hc0, _⟩ := each 0 (by omega)
    obtain ⟨ab, ao, asp⟩ := a
    have hsp : asp = none := by
     cases asp with
     | none => rfl
     | some s => simp [World.cell?, Addr.add] at hc0; split at hc0 <;> simp_all
    subst hsp
    simp only [Addr.add_mk] at hc0 hLQ
    cases hh : w.heap[ab]? with
    | none => simp [World.cell?, hh] at hc0
    | some ob =>
     cases ob with
     | cells cs T m =>
      refine ⟨ab, ao, cs, rfl, by simp [snapOf, snapF, hh], VP.of_each L _ fun i z hz => ?_⟩
      obtain ⟨_, c', k1, k2⟩ := hLQ i z hz
      refine ⟨c', ?_, k2⟩
      simp [World.cell?, hh] at k1
      rw [List.getElem?_drop]
      simpa using k1
     | _ => simp [World.cell?, hh] at hc0
def GS : List (List AV → Prop) → List AV → Prop
 | [], l => l = []
 | G :: Gs, l => ∃ a b, G a ∧ GS Gs b ∧ l = a ++ b
def FieldsOp (P : Program) : List Field → Nat → List (List AV → Prop) → Prop
 | [], _, [] => True
 | f :: fs, off, G :: Gs => f.offset = off ∧ Op1 P f.type G ∧ FieldsOp P fs (off + P.cellsOf f.type) Gs
 | _, _, _ => False
def cellsSum (P : Program) (fs : List Field) : Nat := (fs.map fun f => P.cellsOf f.type).sum
theorem trod_len {H : Type} {enc : TypeId × Value → H} {P : Program} {w : World} (hg : GlobsIn w) {base : Nat} {spare : Nat → Bool} {held : Bool} {n : Nat} : ∀ {fs : List Field} {off : Nat} {Gs : List (List AV → Prop)} {cs : List Value} (_ : FieldsOp P fs off Gs) (_ : ∀ f ∈ fs, ∃ x, DataW.trod enc P w base spare held n f.type ((cs.drop f.offset).take (P.cellsOf f.type)) = some x) (_ : cs.length = off + cellsSum P fs),
  ∃ l, GS Gs l ∧ VL (snapOf w hg) [] l (cs.drop off)
 | [], off, [], cs, _, _, hl => by
  refine ⟨[], rfl, ?_⟩
  have : cs.drop off = [] := List.drop_eq_nil_of_le (by simp [cellsSum] at hl; omega)
  rw [this]; simp only [VL]
 | f :: fs, off, G :: Gs, cs, hf, hx, hl => by
  obtain ⟨h1, h2, h3⟩ := hf
  subst h1
  obtain ⟨x, hx1⟩ := hx f (by simp)
  obtain ⟨a, k1, k2⟩ := h2 _ _ _ hg _ _ _ _ _ _ hx1
  simp only [cellsSum, List.map_cons, List.sum_cons] at hl
  obtain ⟨b, k3, k4⟩ := trod_len hg (off := f.offset + P.cellsOf f.type) h3 (fun g hg => hx g (by simp [hg])) (by simp only [cellsSum]; omega)
  refine ⟨a ++ b, ⟨a, b, k1, k3, rfl⟩, ?_⟩
  have : cs.drop f.offset = (cs.drop f.offset).take (P.cellsOf f.type) ++ cs.drop (f.offset + P.cellsOf f.type) := by rw [← List.drop_drop, List.take_append_drop]
  rw [this]
  exact VL.app k2 k4
 | [], _, _ :: _, _, h, _, _ => h.elim
 | _ :: _, _, [], _, h, _, _ => h.elim
theorem Op1.struct {P : Program} {t : TypeId} {fs : Array Field} {Gs : List (List AV → Prop)} (ht : P.underlying t = some (.struct fs)) (hc : P.cellsOf t = cellsSum P fs.toList) (hf : FieldsOp P fs.toList 0 Gs) : Op1 P t (GS Gs) := by
 intro H enc w hg base spare held fuel cs x h
 obtain ⟨xs, n, rfl, _, hl, hxs, hx⟩ := DataW.trod_struct ht h
 obtain ⟨l, k1, k2⟩ := trod_len hg (n := n) (cs := cs) hf (fun f hf => by
  obtain ⟨i, hi⟩ := List.getElem?_of_mem hf
  have hi' : fs[i]? = some f := by simpa using hi
  obtain ⟨y, hy⟩ : ∃ y, xs[i]? = some y := getElem?_of_lt (by rw [hxs]; exact (Array.getElem?_eq_some_iff.1 hi').1)
  exact ⟨y, by rw [hx i f hi', hy]⟩) (by rw [hl, hc]; simp)
 exact ⟨l, k1, by simpa using k2⟩
theorem open_struct {base : Nat} {H : Type} {enc : TypeId × Value → H} {P : Program} {W : World} (hg : GlobsIn W) {t : TypeId} {v : Value} {d : DataW H} {ps : List MemPlace} {fs : Array Field} {G : List AV → Prop} (ht : P.underlying t = some (.struct fs)) (hG : Op1 P t G) (hv : Value.okWide P W .any base t v) (h : DataW.Trod enc P W 0 (fun _ => true) true t v d ps) :
  ∃ l, G l ∧ V (snapOf W hg) [] (.agg l) v := by
 obtain ⟨cs, rfl, _⟩ := WideShapes.okWide_struct ht hv
 obtain ⟨fuel, h⟩ := h
 obtain ⟨l, h1, h2⟩ := hG _ _ _ hg _ _ _ _ _ _ h
 refine ⟨l, h1, ?_⟩
 simp only [V]
 exact ⟨cs, rfl, by simpa [Value.cells] using h2⟩
theorem open_one {H : Type} {enc : TypeId × Value → H} {P : Program} {W : World} (hg : GlobsIn W) {t : TypeId} {v : Value} {d : DataW H} {ps : List MemPlace} {α : Type} {f : α → AV} {good : α → Prop} (hcell : v.cells = #[v]) (hG : Op1 P t (fun l => ∃ z, good z ∧ l = [f z])) (h : DataW.Trod enc P W 0 (fun _ => true) true t v d ps) :
  ∃ z, good z ∧ V (snapOf W hg) [] (f z) v := by
 obtain ⟨fuel, h⟩ := h
 obtain ⟨l, ⟨z, hz, rfl⟩, h2⟩ := hG _ _ _ hg _ _ _ _ _ _ h
 rw [hcell] at h2
 obtain ⟨c, e, h3⟩ := VL.single_inv h2
 simp at e
 subst e
 exact ⟨z, hz, h3⟩
theorem cells_int {base : Nat} {P : Program} {W : World} {t : TypeId} {k : IntKind} {v : Value} (ht : P.underlying t = some (.int k)) (hv : Value.okWide P W .any base t v) : v.cells = #[v] := by
 obtain ⟨n, rfl⟩ := WideShapes.okWide_int ht hv; rfl
theorem cells_slice {base : Nat} {P : Program} {W : World} {t e : TypeId} {v : Value} (ht : P.underlying t = some (.slice e)) (hv : Value.okWide P W .any base t v) : v.cells = #[v] := by
 obtain ⟨a, n, c, rfl⟩ := WideShapes.okWide_slice ht hv; rfl
theorem cells_float {base : Nat} {P : Program} {W : World} {t : TypeId} {k : FloatKind} {v : Value} (ht : P.underlying t = some (.float k)) (hv : Value.okWide P W .any base t v) : v.cells = #[v] := by
 simp only [Value.okWide, ht, Cell.okWide] at hv
 cases v <;> first | rfl | simp_all [Cell.ok]
theorem trodAll_stays {H : Type} {enc : TypeId × Value → H} {P : Program} (hl : laidOutB P = true) {W W' : World} (hb : Below W.heap.size W W') : ∀ {ts : List TypeId} {vs : List Value} {ds : List (DataW H)} {ps : List MemPlace}, (∀ t ∈ ts, P.readableRec t = true ∧ t < P.types.size) →
  DataW.TrodAll enc P W 0 (fun _ => true) true ts vs ds ps → (∀ x ∈ ps, x.block < W.heap.size) → DataW.TrodAll enc P W' 0 (fun b => decide (b < W.heap.size)) true ts vs ds ps
 | [], [], [], _, _, h, _ => h
 | t :: ts, v :: vs, d :: ds, ps, hr, h, hlt => by
  obtain ⟨p, q, h1, h2, rfl⟩ := h
  exact ⟨p, q, Below.trod hl (hr t (by simp)).1 (hr t (by simp)).2 h1 hb (fun x hx => hlt x (by simp [hx])), trodAll_stays hl hb (fun t ht => hr t (by simp [ht])) h2 (fun x hx => hlt x (by simp [hx])), rfl⟩
 | [], [], _ :: _, _, _, h, _ => h.elim
 | [], _ :: _, _, _, _, h, _ => by cases h
 | _ :: _, [], _, _, _, h, _ => by cases h
 | _ :: _, _ :: _, [], _, _, h, _ => by cases h
theorem law_post {H : Type} {enc : TypeId × Value → H} {P : Program} {f : Func} {s : ChangeSpec} {W W' : World} {args : Array Value} {ds : List (DataW H)} {before : List MemPlace} {t : TypeId}
  (hW : DataW.Whole enc P f.params.toList s.vars false W args.toList ds [] before) (hs : s.vars = []) (hfn : s.fn H (ds ++ []) = { results := [.lit (.bool true)], args := ds }) (hr : f.resultTypes = #[t]) (ht : P.underlying t = some .bool)
  (hl : laidOutB P = true) (hp : ∀ t ∈ f.params.toList, P.readableRec t = true ∧ t < P.types.size) (hb : Below W.heap.size W W') : s.post enc P f false true false false W args (.bool true) W' := by
 have hlt : ∀ x ∈ before, x.block < W.heap.size := fun x hx => hW.lt x hx
 have hW2 := hW
 obtain ⟨p, q, hA, hV, rfl, _, _⟩ := hW
 rw [hs] at hV
 have hq : q = [] := hV
 subst hq
 refine ⟨ds, [], p ++ [], [], p, [], hW2, ?_, ?_, ?_, hb.frame _, fun h => by cases h⟩
 ·rw [hfn, hr]
  exact trodAll_mk1 (shut_bool ht true)
 ·rw [hfn]
  exact trodAll_stays hl hb hp hA (fun x hx => hlt x (by simp [hx]))
 ·rw [hs, hfn]; rfl
end Go.AM

namespace Go.AM
open Ieee
def rval (f : Format) (r : Nat) : Nat := if r < f.binade then r else (f.binade + r % f.binade) * 2 ^ (r / f.binade - 1)
theorem binade_pos (f : Format) : 0 < f.binade := Nat.two_pow_pos _
theorem rval_succ (f : Format) (r : Nat) : rval f r < rval f (r + 1) := by
 have hB := binade_pos f
 unfold rval
 by_cases h1 : r + 1 < f.binade
 ·rw [if_pos (by omega), if_pos h1]; omega
 ·by_cases h2 : r < f.binade
  ·rw [if_pos h2, if_neg h1]
   have e : r + 1 = f.binade := by omega
   rw [e, Nat.mod_self, Nat.div_self hB]
   simp; omega
  ·rw [if_neg h2, if_neg h1]
   have hq : 1 ≤ r / f.binade := (Nat.one_le_div_iff hB).2 (by omega)
   have hm := Nat.mod_lt r hB
   have hdm := Nat.div_add_mod r f.binade
   by_cases h3 : r % f.binade + 1 < f.binade
   ·have e1 : (r + 1) / f.binade = r / f.binade := by
     apply Nat.div_eq_of_lt_le
     ·rw [Nat.mul_comm]; omega
     ·rw [Nat.add_mul, Nat.one_mul, Nat.mul_comm]; omega
    have e2 : (r + 1) % f.binade = r % f.binade + 1 := by
     have := Nat.div_add_mod (r + 1) f.binade
     rw [e1] at this; omega
    rw [e1, e2]
    exact Nat.mul_lt_mul_of_pos_right (by omega) (Nat.two_pow_pos _)
   ·have e0 : r % f.binade = f.binade - 1 := by omega
    have e1 : (r + 1) / f.binade = r / f.binade + 1 := by
     apply Nat.div_eq_of_lt_le
     ·rw [Nat.add_mul, Nat.one_mul, Nat.mul_comm]; omega
     ·rw [Nat.add_mul, Nat.add_mul, Nat.one_mul, Nat.mul_comm]; omega
    have e2 : (r + 1) % f.binade = 0 := by
     have := Nat.div_add_mod (r + 1) f.binade
     rw [e1, Nat.mul_add] at this; omega
    rw [e1, e2, e0]
    obtain ⟨q, hq'⟩ : ∃ q, r / f.binade = q + 1 := ⟨r / f.binade - 1, by omega⟩
    rw [hq']
    simp only [Nat.add_sub_cancel, Nat.add_zero]
    rw [Nat.pow_succ, ← Nat.mul_assoc, Nat.mul_comm (f.binade * 2 ^ q) 2, ← Nat.mul_assoc]
    exact Nat.mul_lt_mul_of_pos_right (by omega) (Nat.two_pow_pos _)
theorem rval_mono (f : Format) {r r' : Nat} (h : r < r') : rval f r < rval f r' := by
 induction r' with
 | zero => omega
 | succ k ih =>
  rcases Nat.lt_or_ge r k with h' | h'
  ·exact Nat.lt_trans (ih h') (rval_succ f k)
  ·have : r = k := by omega
   subst this; exact rval_succ f r
theorem rval_le (f : Format) {r r' : Nat} (h : r ≤ r') : rval f r ≤ rval f r' := by
 rcases Nat.eq_or_lt_of_le h with h | h
 ·rw [h]; exact Nat.le_refl _
 ·exact Nat.le_of_lt (rval_mono f h)
def wneg (f : Format) (w : Nat) : Bool := w / f.signWeight % 2 == 1
def wrung (f : Format) (w : Nat) : Nat := w % f.signWeight
theorem read_fin (f : Format) {w : Nat} (h : wrung f w < f.infRung) : ∃ m a, f.read w = .number (wneg f w) m (f.leastPlace + (a : Nat)) ∧ m * 2 ^ a = rval f (wrung f w) := by
 unfold Format.read rval
 unfold wrung at h
 by_cases h1 : w % f.signWeight < f.binade
 ·refine ⟨w % f.signWeight, 0, ?_, ?_⟩
  ·simp [h1, wneg]
  ·simp [wrung, h1]
 ·refine ⟨f.binade + w % f.signWeight % f.binade, w % f.signWeight / f.binade - 1, ?_, ?_⟩
  ·simp [h1, h, wneg]
  ·simp [wrung, h1]
theorem read_inf (f : Format) (hf : f.binade ≤ f.infRung) {w : Nat} (h : wrung f w = f.infRung) : f.read w = .infinity (wneg f w) := by
 unfold Format.read
 unfold wrung at h
 have hB : ¬ f.infRung < f.binade := by omega
 simp [h, hB, wneg]
theorem read_nan (f : Format) (hf : f.binade ≤ f.infRung) {w : Nat} (h : f.infRung < wrung f w) : (f.read w).isNaN = true := by
 unfold Format.read
 unfold wrung at h
 have h1 : ¬ w % f.signWeight < f.binade := by omega
 have h2 : ¬ w % f.signWeight < f.infRung := by omega
 have h3 : ¬ w % f.signWeight = f.infRung := by omega
 simp [h1, h2, h3, Datum.isNaN]
theorem not_nan (f : Format) (hf : f.binade ≤ f.infRung) {w : Nat} (h : (f.read w).isNaN = false) : wrung f w ≤ f.infRung := by
 rcases Nat.lt_or_ge f.infRung (wrung f w) with h1 | h1
 ·rw [read_nan f hf h1] at h; cases h
 ·exact h1
def sval (s : Bool) (v : Nat) : Int := if s then -(v : Int) else v
theorem compare_mul {x y k : Int} (hk : 0 < k) : compare (x * k) (y * k) = compare x y := by
 rcases Int.lt_trichotomy x y with h | h | h
 ·rw [Int.compare_eq_lt.2 h, Int.compare_eq_lt.2 (Int.mul_lt_mul_of_pos_right h hk)]
 ·rw [h]; simp
 ·rw [Int.compare_eq_gt.2 h, Int.compare_eq_gt.2 (Int.mul_lt_mul_of_pos_right h hk)]
theorem order_num (s t : Bool) (m n a b : Nat) (lp : Int) : Datum.order (.number s m (lp + a)) (.number t n (lp + b)) = some (compare (sval s (m * 2 ^ a)) (sval t (n * 2 ^ b))) := by
 simp only [Datum.order]
 congr 1
 have e1 : (lp + (a : Int) - min (lp + (a : Int)) (lp + (b : Int))).toNat = a - min a b := by omega
 have e2 : (lp + (b : Int) - min (lp + (a : Int)) (lp + (b : Int))).toNat = b - min a b := by omega
 rw [e1, e2]
 have key : ∀ (s : Bool) (m a c : Nat), c ≤ a → sval s (m * 2 ^ a) = signed s m (a - c) * ((2 ^ c : Nat) : Int) := by
  intro s m a c hc
  have : m * 2 ^ a = (m <<< (a - c)) * 2 ^ c := by
   rw [Nat.shiftLeft_eq, Nat.mul_assoc, ← Nat.pow_add]
   congr 2; omega
  unfold sval signed
  rw [this]
  cases s <;> simp [Int.neg_mul]
 rw [key s m a (min a b) (Nat.min_le_left _ _), key t n b (min a b) (Nat.min_le_right _ _), compare_mul (by exact_mod_cast Nat.two_pow_pos _)]
theorem order_fin (f : Format) {x y : Nat} (hx : wrung f x < f.infRung) (hy : wrung f y < f.infRung) : f.order x y = some (compare (sval (wneg f x) (rval f (wrung f x))) (sval (wneg f y) (rval f (wrung f y)))) := by
 obtain ⟨m, a, h1, h2⟩ := read_fin f hx
 obtain ⟨n, b, h3, h4⟩ := read_fin f hy
 unfold Format.order
 rw [h1, h3, order_num, h2, h4]
theorem FOk.some {k : FloatKind} {b : Nat} (h : FOk k (some b)) : b < 2 ^ k.format.width ∧ (k.format.read b).isNaN = false := by
 obtain ⟨_, rfl, h1, h2⟩ := h; exact ⟨h1, h2⟩
theorem fmt_ok (k : FloatKind) : k.format.binade ≤ k.format.infRung := by cases k <;> decide
theorem order_refl (f : Format) (hf : f.binade ≤ f.infRung) {x : Nat} (hx : (f.read x).isNaN = false) : f.order x x = some .eq := by
 rcases Nat.lt_or_ge (wrung f x) f.infRung with h | h
 ·rw [order_fin f h h]; simp
 ·have h1 : wrung f x = f.infRung := Nat.le_antisymm (not_nan f hf hx) h
  unfold Format.order
  rw [read_inf f hf h1]
  simp [Datum.order]
theorem feq_refl {k : FloatKind} {b : Nat} (h : FOk k (some b)) : feq k (some b) (some b) = true := by
 simp [feq, ford, order_refl k.format (fmt_ok k) h.some.2]
@[simp] theorem feq_none_l {k : FloatKind} {c : F} : feq k none c = false := rfl
@[simp] theorem feq_none_r {k : FloatKind} {c : F} : feq k c none = false := by cases c <;> rfl
theorem nearest_word (f : Format) (s : Bool) (m : Nat) (p : Int) : ∃ r, r ≤ f.infRung ∧ f.nearest s m p = f.word s r := by
 unfold Format.nearest
 split
 ·exact ⟨0, Nat.zero_le _, rfl⟩
 ·exact ⟨_, Nat.min_le_right _ _, rfl⟩
theorem wneg_word (f : Format) (s : Bool) {r : Nat} (h : r < f.signWeight) : wneg f (f.word s r) = s ∧ wrung f (f.word s r) = r := by
 have hpos : 0 < f.signWeight := Nat.two_pow_pos _
 unfold wneg wrung Format.word
 cases s
 ·simp [Nat.div_eq_of_lt h, Nat.mod_eq_of_lt h]
 ·have e1 : (f.signWeight + r) / f.signWeight = 1 := by rw [Nat.add_div_left _ hpos, Nat.div_eq_of_lt h]
  simp [e1, Nat.add_mod_left, Nat.mod_eq_of_lt h]
theorem write_neg (f : Format) {d : Datum} (h : d.isNaN = false) : wneg f (f.write d) = d.neg ∧ wrung f (f.write d) ≤ f.infRung := by
 have hi := f.infRung_lt
 cases d with
 | number s m p =>
  obtain ⟨r, h1, h2⟩ := nearest_word f s m p
  show wneg f (f.nearest s m p) = s ∧ wrung f (f.nearest s m p) ≤ f.infRung
  rw [h2]
  obtain ⟨k1, k2⟩ := wneg_word f s (r := r) (by omega)
  exact ⟨k1, by omega⟩
 | infinity s =>
  obtain ⟨k1, k2⟩ := wneg_word f s (r := f.infRung) hi
  exact ⟨k1, Nat.le_of_eq k2⟩
 | nan _ _ => cases h
theorem fwiden_ok {c : F} (h : FOk .f32 c) : FOk .f64 (fwiden c) := by
 cases c with
 | none => exact ⟨0x7FF8000000000000, by decide, by decide⟩
 | some b => exact ⟨_, encode_FR .f64 h.some.2⟩
end Go.AM

namespace Go.AM
theorem at?_of {α : Type} {l : List α} {v : Int} {x : α} (h0 : 0 ≤ v) (h : l[v.toNat]? = some x) : at? l v = some x := by
 unfold at?; rw [if_pos h0]; exact h
theorem setAt?_of {α : Type} {l : List α} {v : Int} {x : α} (h0 : 0 ≤ v) (h : v.toNat < l.length) : setAt? l v x = some (l.set v.toNat x) := by
 unfold setAt?; rw [if_pos ⟨h0, h⟩]
theorem loop_eq {α : Type} [DecidableEq α] {l m : List α} (hlen : l.length = m.length) {step : Int → Option (LR Int Unit Bool)}
  (hstep : ∀ (v : Int) (x y : α), 0 ≤ v → v < l.length → l[v.toNat]? = some x → m[v.toNat]? = some y → step v = if x = y then some (.next (v + 1)) else some (.ret false)) (hend : step l.length = some (.out ())) :
  loopM step 0 = some (if l = m then .inl () else .inr false) := by
 have key : ∀ (k i : Nat), k + i = l.length → loopM step (i : Int) = some (if l.drop i = m.drop i then .inl () else .inr false) := by
  intro k
  induction k with
  | zero =>
   intro i hi
   have : i = l.length := by omega
   subst this
   rw [loopM_out hend, List.drop_length, hlen, List.drop_length, if_pos rfl]
  | succ k ih =>
   intro i hi
   have hl : i < l.length := by omega
   have hm : i < m.length := by omega
   have hs := hstep i l[i] m[i] (by omega) (by omega) (by simp [hl]) (by simp [hm])
   rw [List.drop_eq_getElem_cons hl, List.drop_eq_getElem_cons hm]
   by_cases e : l[i] = m[i]
   ·rw [if_pos e] at hs
    rw [loopM_next hs, show ((i : Int) + 1) = ((i + 1 : Nat) : Int) by omega, ih (i + 1) (by omega), e]
    simp only [List.cons.injEq, true_and]
   ·rw [if_neg e] at hs
    rw [loopM_ret hs, if_neg (fun h => e (List.cons.inj h).1)]
 have := key l.length 0 (by omega)
 simpa using this
theorem loop_all {α : Type} {l : List α} {p : α → Bool} {step : Int → Option (LR Int Unit Bool)} (b : Bool)
  (hstep : ∀ (v : Int) (x : α), 0 ≤ v → v < l.length → l[v.toNat]? = some x → step v = if p x then some (.next (v + 1)) else some (.ret b)) (hend : step l.length = some (.out ())) :
  loopM step 0 = some (if l.all p then .inl () else .inr b) := by
 have key : ∀ (k i : Nat), k + i = l.length → loopM step (i : Int) = some (if (l.drop i).all p then .inl () else .inr b) := by
  intro k
  induction k with
  | zero =>
   intro i hi
   have : i = l.length := by omega
   subst this
   rw [loopM_out hend, List.drop_length]; simp
  | succ k ih =>
   intro i hi
   have hl : i < l.length := by omega
   have hs := hstep i l[i] (by omega) (by omega) (by simp [hl])
   rw [List.drop_eq_getElem_cons hl, List.all_cons]
   by_cases e : p l[i] = true
   ·rw [if_pos e] at hs
    rw [loopM_next hs, show ((i : Int) + 1) = ((i + 1 : Nat) : Int) by omega, ih (i + 1) (by omega), e, Bool.true_and]
   ·rw [if_neg e] at hs
    simp only [Bool.not_eq_true] at e
    rw [loopM_ret hs, e]; simp
 have := key l.length 0 (by omega)
 simpa using this
theorem loop_copy {α ρ : Type} {a : List α} {step : List α × Int → Option (LR (List α × Int) (List α) ρ)}
  (hstep : ∀ (L : List α) (v : Int) (x : α), 0 ≤ v → v < a.length → a[v.toNat]? = some x → L.length = a.length → step (L, v) = some (.next (L.set v.toNat x, v + 1))) (hend : ∀ L : List α, L.length = a.length → step (L, a.length) = some (.out L)) (z : List α) (hz : z.length = a.length) :
  loopM step (z, 0) = some (.inl a) := by
 have key : ∀ (k i : Nat) (L : List α), k + i = a.length → L.length = a.length → L.take i = a.take i → loopM step (L, (i : Int)) = some (.inl a) := by
  intro k
  induction k with
  | zero =>
   intro i L hi hL ht
   have : i = a.length := by omega
   subst this
   rw [List.take_length, ← hL, List.take_length] at ht
   subst ht
   exact loopM_out (hend L hL)
  | succ k ih =>
   intro i L hi hL ht
   have hl : i < a.length := by omega
   rw [loopM_next (hstep L i a[i] (by omega) (by omega) (by simp [hl]) hL), show ((i : Int) + 1) = ((i + 1 : Nat) : Int) by omega]
   refine ih (i + 1) _ (by omega) (by simpa using hL) ?_
   have e : (i : Int).toNat = i := by omega
   rw [e, List.take_succ_eq_append_getElem (by simp; omega), List.take_succ_eq_append_getElem hl, List.take_set_of_le (Nat.le_refl _), ht]
   simp
 exact key a.length 0 z (by omega) hz (by simp)
theorem wrap_succ {v : Int} {n : Nat} (h0 : 0 ≤ v) (h : v < n) (hn : n ≤ 9223372036854775807) : IntKind.i64.wrap (v + 1) = v + 1 := wrap_i64 (by omega) (by omega)
end Go.AM

namespace Go.AM
open Ieee
def fin32 (c : F) : Bool := match c with
 | none => false
 | some b => !(single.read b).isInfinity
theorem read_cases {f : Format} (hf : f.binade ≤ f.infRung) {b : Nat} (h : (f.read b).isNaN = false) : (wrung f b < f.infRung ∧ (f.read b).isInfinity = false) ∨ (wrung f b = f.infRung ∧ f.read b = .infinity (wneg f b)) := by
 rcases Nat.lt_or_ge (wrung f b) f.infRung with h1 | h1
 ·obtain ⟨m, a, e, _⟩ := read_fin f h1
  exact .inl ⟨h1, by rw [e]; rfl⟩
 ·have := Nat.le_antisymm (not_nan f hf h) h1
  exact .inr ⟨this, read_inf f hf this⟩
theorem sub_self {c : F} (h : FOk .f32 c) : feq .f32 (fop .sub .f32 c c) (some 0) = fin32 c := by
 cases c with
 | none => rfl
 | some b =>
  have hn := h.some.2
  have e : fop .sub .f32 (some b) (some b) = single.sub b b := rfl
  rw [e]
  rcases read_cases (f := single) (fmt_ok .f32) hn with ⟨h1, h2⟩ | ⟨h1, h2⟩
  ·obtain ⟨m, a, e1, _⟩ := read_fin single h1
   have : single.sub b b = some 0 := by
    unfold Format.sub
    rw [e1]
    have ht : signed (wneg single b) m 0 + signed (!wneg single b) m 0 = 0 := by
     unfold signed; cases wneg single b <;> simp <;> omega
    simp only [Datum.opposite, Datum.sum, Int.min_self, Int.sub_self, Int.toNat_zero, ht, if_true]
    simp [Format.write, Format.nearest, Format.word]
   rw [this]
   have h3 : fin32 (some b) = true := by simp [fin32, h2]
   rw [h3]; decide
  ·have : single.sub b b = none := by
    unfold Format.sub
    rw [h2]
    cases wneg single b <;> rfl
   rw [this]
   have h3 : fin32 (some b) = false := by simp [fin32, h2, Datum.isInfinity]
   rw [h3]; rfl
theorem fabs_max {c : F} (h : FOk .f32 c) (hc : c ≠ none) : flt .f64 (some 9218868437227405311) (fabs (fwiden c)) = !fin32 c := by
 cases c with
 | none => exact absurd rfl hc
 | some b =>
  have hn := h.some.2
  have hfab : fabs (fwiden (some b)) = some (double.write (single.read b) % 9223372036854775808) := rfl
  rw [hfab]
  have hmx : wrung double 9218868437227405311 < double.infRung := by decide
  have hmw : wrung double 9218868437227405311 = 9218868437227405311 := by decide
  have hnm : wneg double 9218868437227405311 = false := by decide
  rcases read_cases (f := single) (fmt_ok .f32) hn with ⟨h1, h2⟩ | ⟨h1, h2⟩
  ·obtain ⟨m, a, e1, _⟩ := read_fin single h1
   have h3 : fin32 (some b) = true := by simp [fin32, h2]
   rw [h3]
   have hw := write_neg double (d := single.read b) hn
   have hfi : (double.read (double.write (single.read b))).isInfinity = false := by
    rw [e1]; exact widen_finite (b := b) e1
   have hlt : wrung double (double.write (single.read b)) < double.infRung := by
    rcases Nat.lt_or_ge (wrung double (double.write (single.read b))) double.infRung with k | k
    ·exact k
    ·rw [read_inf double (fmt_ok .f64) (Nat.le_antisymm hw.2 k)] at hfi; cases hfi
   have hr : double.write (single.read b) % 9223372036854775808 = wrung double (double.write (single.read b)) := rfl
   rw [hr]
   generalize wrung double (double.write (single.read b)) = r at hlt
   have hrs : r < 9223372036854775808 := Nat.lt_trans hlt (by decide)
   have hwr : wrung double r = r := Nat.mod_eq_of_lt hrs
   have hwn : wneg double r = false := by
    unfold wneg
    rw [show double.signWeight = 9223372036854775808 from by decide, Nat.div_eq_of_lt hrs]; rfl
   have ho : double.order 9218868437227405311 r = some (compare (sval false (rval double 9218868437227405311)) (sval false (rval double r))) := by
    rw [order_fin double hmx (by rw [hwr]; exact hlt), hnm, hmw, hwr, hwn]
   have hle : rval double r ≤ rval double 9218868437227405311 := rval_le double (by
    have : double.infRung = 9218868437227405312 := by decide
    omega)
   have hcmp : compare (sval false (rval double 9218868437227405311)) (sval false (rval double r)) ≠ .lt := by
    intro hc'
    have := Int.compare_eq_lt.1 hc'
    simp [sval] at this
    omega
   have : flt .f64 (some 9218868437227405311) (some r) = (double.order 9218868437227405311 r == some .lt) := rfl
   rw [this, ho]
   simp [hcmp]
  ·have h3 : fin32 (some b) = false := by simp [fin32, h2, Datum.isInfinity]
   rw [h3, h2]
   cases wneg single b <;> decide
theorem loop_find {α : Type} {l : List α} {p : α → Bool} {step : Int → Option (LR Int Unit Int)}
  (hstep : ∀ (v : Int) (x : α), 0 ≤ v → v < l.length → l[v.toNat]? = some x → step v = if p x then some (.ret v) else some (.next (v + 1))) (hend : step l.length = some (.out ())) :
  ∃ r : Int, loopM step 0 = some (if l.any p then .inr r else .inl ()) ∧ 0 ≤ r := by
 have key : ∀ (k i : Nat), k + i = l.length → ∃ r : Int, loopM step (i : Int) = some (if (l.drop i).any p then .inr r else .inl ()) ∧ 0 ≤ r := by
  intro k
  induction k with
  | zero =>
   intro i hi
   have : i = l.length := by omega
   subst this
   refine ⟨0, ?_, Int.le_refl _⟩
   rw [loopM_out hend, List.drop_length]; simp
  | succ k ih =>
   intro i hi
   have hl : i < l.length := by omega
   have hs := hstep i l[i] (by omega) (by omega) (by simp [hl])
   rw [List.drop_eq_getElem_cons hl, List.any_cons]
   by_cases e : p l[i] = true
   ·rw [if_pos e] at hs
    exact ⟨i, by rw [loopM_ret hs, e]; simp, by omega⟩
   ·rw [if_neg e] at hs
    simp only [Bool.not_eq_true] at e
    obtain ⟨r, h1, h2⟩ := ih (i + 1) (by omega)
    exact ⟨r, by rw [loopM_next hs, show ((i : Int) + 1) = ((i + 1 : Nat) : Int) by omega, h1, e, Bool.false_or], h2⟩
 have := key l.length 0 (by omega)
 simpa using this
end Go.AM

namespace Go.AM
def run {σ : Type} (f : Nat → σ → σ) : Nat → Nat → σ → σ
 | _, 0, s => s
 | i, m + 1, s => run f (i + 1) m (f i s)
theorem run_succ {σ : Type} (f : Nat → σ → σ) (i m : Nat) (s : σ) : run f i (m + 1) s = run f (i + 1) m (f i s) := rfl
theorem run_last {σ : Type} (f : Nat → σ → σ) : ∀ (m i : Nat) (s : σ), run f i (m + 1) s = f (i + m) (run f i m s)
 | 0, i, s => by simp [run]
 | m + 1, i, s => by
  rw [run_succ, run_last f m (i + 1) (f i s), run_succ, show i + 1 + m = i + (m + 1) by omega]
theorem run_inv {σ : Type} {f : Nat → σ → σ} (Inv : Nat → σ → Prop) : ∀ (m i : Nat) (s : σ), Inv i s → (∀ j s, i ≤ j → j < i + m → Inv j s → Inv (j + 1) (f j s)) → Inv (i + m) (run f i m s)
 | 0, i, s, h, _ => h
 | m + 1, i, s, h, hs => by
  rw [show i + (m + 1) = i + 1 + m by omega]
  exact run_inv Inv m (i + 1) (f i s) (hs i s (Nat.le_refl _) (by omega) h) fun j s h1 h2 h3 => hs j s (by omega) (by omega) h3
theorem loop_run {S σ ε ρ : Type} {step : S → Option (LR S ε ρ)} (mk : Nat → σ → S) (f : Nat → σ → σ) (out : σ → ε) (Inv : Nat → σ → Prop) {lo n : Nat} (hlo : lo ≤ n) {s0 : σ} (h0 : Inv lo s0)
  (hs : ∀ i s, lo ≤ i → i < n → Inv i s → step (mk i s) = some (.next (mk (i + 1) (f i s))) ∧ Inv (i + 1) (f i s)) (he : ∀ s, Inv n s → step (mk n s) = some (.out (out s))) :
  loopM step (mk lo s0) = some (.inl (out (run f lo (n - lo) s0))) ∧ Inv n (run f lo (n - lo) s0) := by
 have key : ∀ (m i : Nat) (s : σ), i + m = n → lo ≤ i → Inv i s → loopM step (mk i s) = some (.inl (out (run f i m s))) ∧ Inv n (run f i m s) := by
  intro m
  induction m with
  | zero =>
   intro i s hi _ hI
   have : i = n := by omega
   subst this
   exact ⟨loopM_out (he s hI), hI⟩
  | succ m ih =>
   intro i s hi hl hI
   obtain ⟨h1, h2⟩ := hs i s hl (by omega) hI
   rw [loopM_next h1, run_succ]
   exact ih (i + 1) (f i s) (by omega) (by omega) h2
 exact key (n - lo) lo s0 (by omega) (Nat.le_refl _) h0
theorem at?_n {α : Type} {L : List α} {i : Nat} (d : α) (h : i < L.length) : at? L (i : Int) = some (L.getD i d) := at?_of (by omega) (by simp [List.getD, h])
theorem fop_ok {op : BinOp} (k : FloatKind) (a b : F) : FOk k (fop op k a b) ∨ fop op k a b = none := by
 cases h : fop op k a b with
 | none => exact .inr rfl
 | some r =>
  left
  cases a with
  | none => simp [fop] at h
  | some a =>
   cases b with
   | none => simp [fop] at h
   | some b => exact ⟨r, FR.of_bits (op := op) (x := a) (y := b) h⟩
end Go.AM
namespace Go.AM
end Go.AM
namespace Go.AM
end Go.AM
namespace Go.AM
def lrmap {σ S ε ρ : Type} (g : σ → S) : LR σ ε ρ → LR S ε ρ
 | .next s => .next (g s)
 | .out e => .out e
 | .ret r => .ret r
def runL {σ ε ρ : Type} (f : Nat → σ → LR σ ε ρ) (fin : σ → ε) : Nat → Nat → σ → ε ⊕ ρ
 | _, 0, s => .inl (fin s)
 | i, m + 1, s => match f i s with
  | .next s' => runL f fin (i + 1) m s'
  | .out e => .inl e
  | .ret r => .inr r
theorem loop_runL {S σ ε ρ : Type} {step : S → Option (LR S ε ρ)} (mk : Nat → σ → S) (f : Nat → σ → LR σ ε ρ) (fin : σ → ε) (Inv : Nat → σ → Prop) {lo n : Nat} (hlo : lo ≤ n) {s0 : σ} (h0 : Inv lo s0)
  (hs : ∀ i s, lo ≤ i → i < n → Inv i s → step (mk i s) = some (lrmap (mk (i + 1)) (f i s)) ∧ ∀ s', f i s = .next s' → Inv (i + 1) s') (he : ∀ s, Inv n s → step (mk n s) = some (.out (fin s))) :
  loopM step (mk lo s0) = some (runL f fin lo (n - lo) s0) := by
 have key : ∀ (m i : Nat) (s : σ), i + m = n → lo ≤ i → Inv i s → loopM step (mk i s) = some (runL f fin i m s) := by
  intro m
  induction m with
  | zero =>
   intro i s hi _ hI
   have : i = n := by omega
   subst this
   exact loopM_out (he s hI)
  | succ m ih =>
   intro i s hi hl hI
   obtain ⟨h1, h2⟩ := hs i s hl (by omega) hI
   cases e : f i s with
   | next s' =>
    rw [e] at h1
    rw [loopM_next h1]
    simp only [runL, e]
    exact ih (i + 1) s' (by omega) (by omega) (h2 s' e)
   | out x => rw [e] at h1; rw [loopM_out h1]; simp only [runL, e]
   | ret r => rw [e] at h1; rw [loopM_ret h1]; simp only [runL, e]
 exact key (n - lo) lo s0 (by omega) (Nat.le_refl _) h0
end Go.AM
namespace Go.AM
end Go.AM

namespace Go.AM
open Ieee
theorem fok_none (k : FloatKind) : FOk k none := ⟨_, nan_cut 0 0 0⟩
theorem fop_fok {op : BinOp} (k : FloatKind) (a b : F) : FOk k (fop op k a b) := by
 rcases fop_ok (op := op) k a b with h | h
 ·exact h
 ·rw [h]; exact fok_none k
theorem log2_mul_pow {x d : Nat} (hx : x ≠ 0) : (x * 2 ^ d).log2 = x.log2 + d := by
 have h0 : x * 2 ^ d ≠ 0 := Nat.mul_ne_zero hx (Nat.ne_of_gt (Nat.two_pow_pos d))
 rw [Nat.log2_eq_iff h0]
 have h1 := Nat.log2_self_le hx
 have h2 : x < 2 ^ (x.log2 + 1) := Nat.lt_log2_self
 constructor
 ·rw [Nat.pow_add]; exact Nat.mul_le_mul_right _ h1
 ·rw [show x.log2 + d + 1 = x.log2 + 1 + d by omega, Nat.pow_add]
  exact Nat.mul_lt_mul_of_pos_right h2 (Nat.two_pow_pos d)
theorem cut_mul (s : Bool) (x d : Nat) : Toward.even.cut s (x * 2 ^ d) d = x := by
 unfold Toward.cut
 have key : (x * 2 ^ d) / (1 <<< min d ((x * 2 ^ d).log2 + 2)) = x ∧ (x * 2 ^ d) % (1 <<< min d ((x * 2 ^ d).log2 + 2)) = 0 := by
  by_cases hx : x = 0
  ·subst hx; simp
  ·have : min d ((x * 2 ^ d).log2 + 2) = d := by rw [log2_mul_pow hx]; omega
   rw [this, Nat.one_shiftLeft]
   exact ⟨Nat.mul_div_cancel _ (Nat.two_pow_pos d), Nat.mul_mod_left _ _⟩
 dsimp only
 rw [key.1, key.2]
 have hg : 0 < 1 <<< min d ((x * 2 ^ d).log2 + 2) := by rw [Nat.one_shiftLeft]; exact Nat.two_pow_pos _
 simp only [Nat.mul_zero]
 have h1 : decide ((1 <<< min d ((x * 2 ^ d).log2 + 2)) < 0) = false := by simp
 have h2 : ((1 <<< min d ((x * 2 ^ d).log2 + 2)) == 0) = false := by simp
 rw [h1, h2]
 simp
theorem log2_lt_of {x n : Nat} (hx : x ≠ 0) (h : x < 2 ^ n) : x.log2 < n := (Nat.log2_lt hx).2 h
theorem readWord (f : Format) (s : Bool) {r : Nat} (hr : r < f.infRung) : f.read (f.word s r) = if r < f.binade then .number s r f.leastPlace else .number s (f.binade + r % f.binade) (f.leastPlace + ((r / f.binade - 1 : Nat) : Int)) := by
 have h1 := f.infRung_lt
 obtain ⟨k1, k2⟩ := wneg_word f s (r := r) (by omega)
 unfold wneg at k1
 unfold wrung at k2
 unfold Format.read
 simp only [k1, k2]
 split
 ·rfl
 ·first | rfl | rw [if_pos hr]
theorem single_num {b : Nat} {s : Bool} {m : Nat} {e : Int} (h : single.read b = .number s m e) : m < 2 ^ 24 ∧ -149 ≤ e ∧ e ≤ 104 := by
 have hs : single.signWeight = 2147483648 := rfl
 have hbn : single.binade = 8388608 := rfl
 have hi : single.infRung = 2139095040 := rfl
 have hl : single.leastPlace = -149 := rfl
 simp only [Format.read, hs, hbn, hi, hl] at h
 split at h
 ·simp at h; omega
 ·split at h
  ·simp at h; omega
  ·split at h <;> simp at h
theorem widen_num {s : Bool} {m : Nat} {e : Int} (hm : m < 2 ^ 24) (h1 : -149 ≤ e) (h2 : e ≤ 104) (h0 : m ≠ 0) :
  ∃ R, double.nearest s m e = double.word s R ∧ R < double.infRung ∧ double.binade ≤ R ∧ ∀ t, double.read (double.word t R) = .number t (m * 2 ^ (52 - m.log2)) (e + (m.log2 : Int) - 52) := by
 have hlog : m.log2 < 24 := log2_lt_of h0 hm
 have hi : double.infRung = 9218868437227405312 := rfl
 have hbn : double.binade = 4503599627370496 := rfl
 have hl : double.leastPlace = -1074 := rfl
 have hf : double.fractionBits = 52 := rfl
 have hlo : 2 ^ 52 ≤ m * 2 ^ (52 - m.log2) := by
  have := Nat.mul_le_mul_right (2 ^ (52 - m.log2)) (Nat.log2_self_le h0)
  rw [← Nat.pow_add] at this
  rwa [show m.log2 + (52 - m.log2) = 52 by omega] at this
 have hhi : m * 2 ^ (52 - m.log2) < 2 ^ 53 := by
  have : m * 2 ^ (52 - m.log2) < 2 ^ (m.log2 + 1) * 2 ^ (52 - m.log2) := Nat.mul_lt_mul_of_pos_right Nat.lt_log2_self (Nat.two_pow_pos _)
  rw [← Nat.pow_add] at this
  rwa [show m.log2 + 1 + (52 - m.log2) = 53 by omega] at this
 generalize hx : m * 2 ^ (52 - m.log2) = x at hlo hhi
 have hA : ∃ A : Nat, (e + (m.log2 : Int) - 52 - -1074).toNat = A ∧ A ≤ 1149 ∧ (A : Int) = e + (m.log2 : Int) - 52 + 1074 := ⟨_, rfl, by omega, by omega⟩
 obtain ⟨A, hA1, hA2, hA3⟩ := hA
 have hR : A * 4503599627370496 + x < 9218868437227405312 := by
  have h4 : A * 4503599627370496 ≤ 1149 * 4503599627370496 := Nat.mul_le_mul_right _ hA2
  omega
 refine ⟨A * 4503599627370496 + x, ?_, by rw [hi]; exact hR, by rw [hbn]; omega, fun t => ?_⟩
 ·unfold Format.nearest
  rw [if_neg h0]
  simp only [hbn, hl, hf]
  have hlast : max (e + (m.log2 : Int) - ((52 : Nat) : Int)) (-1074) = e + (m.log2 : Int) - 52 := by omega
  rw [hlast]
  have e1 : (e - (e + (m.log2 : Int) - 52)).toNat = 52 - m.log2 := by omega
  have e2 : (e + (m.log2 : Int) - 52 - e).toNat = 0 := by omega
  rw [e1, e2, hA1, Nat.shiftLeft_eq, hx]
  have := cut_mul s x 0
  simp only [Nat.pow_zero, Nat.mul_one] at this
  rw [this, hi, Nat.min_eq_left (Nat.le_of_lt hR)]
 ·rw [readWord double t (by rw [hi]; exact hR)]
  rw [if_neg (by rw [hbn]; omega)]
  simp only [hbn, hl]
  have d1 : (A * 4503599627370496 + x) / 4503599627370496 = A + 1 := by omega
  have d2 : 4503599627370496 + (A * 4503599627370496 + x) % 4503599627370496 = x := by omega
  rw [d1, d2]
  congr 1
  omega
theorem rval_zero (f : Format) : rval f 0 = 0 := by simp [rval, binade_pos]
theorem order_zero {b : Nat} (g : wrung single b < single.infRung) : single.order b 0 = some (compare (sval (wneg single b) (rval single (wrung single b))) 0) := by
 have h0 : wrung single 0 = 0 := rfl
 rw [order_fin single g (by rw [h0]; decide), h0, rval_zero]
 rfl
end Go.AM

namespace Go.AM
open Ieee
theorem cut_le (s : Bool) (n d : Nat) : Toward.even.cut s n d ≤ n / (1 <<< min d (n.log2 + 2)) + 1 := by
 unfold Toward.cut
 dsimp only
 refine Nat.add_le_add_left ?_ _
 exact Bool.toNat_le _
theorem nearest_small (f : Format) (s : Bool) {m : Nat} {p : Int} {K : Nat} (hm : m ≠ 0) (h : p + (m.log2 : Int) ≤ f.leastPlace + (f.fractionBits : Int) + (K : Int)) (_ : (K + 2) * f.binade ≤ f.infRung) :
  ∃ r, f.nearest s m p = f.word s r ∧ r ≤ (K + 2) * f.binade := by
 have hb : f.binade = 2 ^ f.fractionBits := rfl
 unfold Format.nearest
 rw [if_neg hm]
 simp only
 generalize hl : max (p + (m.log2 : Int) - (f.fractionBits : Int)) f.leastPlace = last
 have h1 : last ≤ f.leastPlace + (K : Int) := by omega
 have h2 : p + (m.log2 : Int) - (f.fractionBits : Int) ≤ last := by omega
 have h3 : f.leastPlace ≤ last := by omega
 have hkept : Toward.even.cut s (m <<< (p - last).toNat) (last - p).toNat ≤ 2 * f.binade := by
  rw [hb]
  rcases Int.le_total last p with hle | hle
  ·have e1 : (last - p).toNat = 0 := by omega
   rw [e1, Nat.shiftLeft_eq]
   have hc := cut_mul s (m * 2 ^ (p - last).toNat) 0
   rw [Nat.pow_zero, Nat.mul_one] at hc
   rw [hc]
   have hlt : m < 2 ^ (m.log2 + 1) := Nat.lt_log2_self
   have : m * 2 ^ (p - last).toNat < 2 ^ (m.log2 + 1) * 2 ^ (p - last).toNat := Nat.mul_lt_mul_of_pos_right hlt (Nat.two_pow_pos _)
   rw [← Nat.pow_add] at this
   have h4 : 2 ^ (m.log2 + 1 + (p - last).toNat) ≤ 2 ^ (f.fractionBits + 1) := Nat.pow_le_pow_right (by decide) (by omega)
   rw [Nat.pow_succ] at h4
   omega
  ·have e1 : (p - last).toNat = 0 := by omega
   rw [e1, Nat.shiftLeft_zero]
   have hc := cut_le s m (last - p).toNat
   refine Nat.le_trans hc ?_
   rw [Nat.one_shiftLeft]
   have hlt : m < 2 ^ (m.log2 + 1) := Nat.lt_log2_self
   have hpos : 0 < 2 ^ f.fractionBits := Nat.two_pow_pos _
   rcases Nat.le_total (last - p).toNat (m.log2 + 2) with hd | hd
   ·rw [Nat.min_eq_left hd]
    have : m / 2 ^ (last - p).toNat < 2 ^ (f.fractionBits + 1) := by
     rw [Nat.div_lt_iff_lt_mul (Nat.two_pow_pos _), ← Nat.pow_add]
     exact Nat.lt_of_lt_of_le hlt (Nat.pow_le_pow_right (by decide) (by omega))
    rw [Nat.pow_succ] at this
    omega
   ·rw [Nat.min_eq_right hd]
    have : m / 2 ^ (m.log2 + 2) = 0 := Nat.div_eq_of_lt (Nat.lt_trans hlt (Nat.pow_lt_pow_right (by decide) (by omega)))
    rw [this]; omega
 have hA : (last - f.leastPlace).toNat ≤ K := by omega
 have hR : (last - f.leastPlace).toNat * f.binade + Toward.even.cut s (m <<< (p - last).toNat) (last - p).toNat ≤ (K + 2) * f.binade := by
  rw [Nat.add_mul]
  exact Nat.add_le_add (Nat.mul_le_mul_right _ hA) hkept
 exact ⟨_, rfl, Nat.le_trans (Nat.min_le_left _ _) hR⟩
theorem rootFrom_lt (n : Nat) : ∀ (t r : Nat), Datum.rootFrom n t r < r + 2 ^ t
 | 0, r => by simp [Datum.rootFrom]
 | t + 1, r => by
  unfold Datum.rootFrom
  simp only
  rw [Nat.one_shiftLeft]
  have hp : 2 ^ (t + 1) = 2 ^ t + 2 ^ t := by rw [Nat.pow_succ]; omega
  split
  ·have := rootFrom_lt n t (r + 2 ^ t); omega
  ·have := rootFrom_lt n t r; have := Nat.two_pow_pos t; omega
theorem narrow_num {c m : Nat} {e : Int} (s1 : double.read c = .number false m e) (s2 : m ≠ 0 → e + (m.log2 : Int) ≤ 64) : ∃ z, fnarrow (some c) = some z := by
 have hfn : fnarrow (some c) = if (single.read (single.write (.number false m e))).isInfinity then none else some (some (single.write (.number false m e))) := by
  have : FloatKind.f64.decode c = .number false m e := s1
  simp only [fnarrow]
  rw [this]; rfl
 rw [hfn]
 have hnot : (single.read (single.write (.number false m e))).isInfinity = false := by
  show (single.read (single.nearest false m e)).isInfinity = false
  have hbn : single.binade = 8388608 := rfl
  have hi : single.infRung = 2139095040 := rfl
  have hz : ∀ r, r < 2139095040 → (single.read (single.word false r)).isInfinity = false := by
   intro r hr
   rw [readWord single false (r := r) (by rw [hi]; exact hr)]
   split <;> rfl
  by_cases hm0 : m = 0
  ·subst hm0
   have : single.nearest false 0 e = single.word false 0 := by unfold Format.nearest; rw [if_pos rfl]
   rw [this]; exact hz 0 (by decide)
  ·obtain ⟨r, n1, n2⟩ := nearest_small single false (m := m) (p := e) (K := 190) hm0 (by
    have hl : single.leastPlace = -149 := rfl
    have hf : single.fractionBits = 23 := rfl
    have := s2 hm0
    rw [hl, hf]; omega) (by rw [hbn, hi]; decide)
   rw [hbn] at n2
   rw [n1]; exact hz r (by omega)
 rw [hnot]
 exact ⟨_, rfl⟩
theorem read_nearest {G : Nat} {Q : Int} (hG : G < 2 ^ 56) (hQ : Q ≤ 8) : ∃ m e, double.read (double.nearest false G Q) = .number false m e ∧ (m ≠ 0 → e + (m.log2 : Int) ≤ 64) := by
 have hbn : double.binade = 4503599627370496 := rfl
 have hl : double.leastPlace = -1074 := rfl
 have hi : double.infRung = 9218868437227405312 := rfl
 have hf : double.fractionBits = 52 := rfl
 have hz : ∀ r, r ≤ 1087 * 4503599627370496 → ∃ m e, double.read (double.word false r) = .number false m e ∧ (m ≠ 0 → e + (m.log2 : Int) ≤ 64) := by
  intro r n2
  rw [readWord double false (r := r) (by rw [hi]; omega)]
  split
  ·rename_i hr
   rw [hbn] at hr
   refine ⟨_, _, rfl, fun hr0 => ?_⟩
   have := log2_lt_of (n := 52) hr0 (by omega)
   rw [hl]; omega
  ·rename_i hr
   rw [hbn] at hr
   refine ⟨_, _, rfl, fun hr0 => ?_⟩
   have := log2_lt_of (n := 53) hr0 (by rw [hbn]; omega)
   rw [hl, hbn] at *
   have hd : r / 4503599627370496 ≤ 1087 := by omega
   omega
 by_cases hG0 : G = 0
 ·subst hG0
  have : double.nearest false 0 Q = double.word false 0 := by unfold Format.nearest; rw [if_pos rfl]
  rw [this]; exact hz 0 (by omega)
 ·have hGl : G.log2 < 56 := log2_lt_of hG0 hG
  obtain ⟨r, n1, n2⟩ := nearest_small double false (m := G) (p := Q) (K := 1085) hG0 (by rw [hl, hf]; omega) (by rw [hbn, hi]; decide)
  rw [hbn] at n2
  rw [n1]; exact hz r n2
theorem root_pos {M : Nat} {P : Int} (h0 : M ≠ 0) (hl : M.log2 = 52) (hP : P ≤ 75) : ∃ G Q, Datum.root 54 (.number false M P) = some (.number false G Q) ∧ G < 2 ^ 56 ∧ Q ≤ 8 := by
 unfold Datum.root
 dsimp only
 rw [if_neg h0, if_neg (by decide), hl]
 have hmod : ((P - ((2 * 54 - 52 : Nat) : Int)) % 2).toNat ≤ 1 := by omega
 generalize hmore : 2 * 54 - 52 + ((P - ((2 * 54 - 52 : Nat) : Int)) % 2).toNat = more
 have hmore2 : 56 ≤ more ∧ more ≤ 57 := by omega
 have hlogn : (M <<< more).log2 / 2 + 1 = 55 := by
  rw [Nat.shiftLeft_eq, log2_mul_pow h0, hl]; omega
 rw [hlogn]
 have hwh := rootFrom_lt (M <<< more) 55 0
 generalize Datum.rootFrom (M <<< more) 55 0 = W at hwh
 have hbit : (W * W != M <<< more).toNat ≤ 1 := Bool.toNat_le _
 exact ⟨_, _, rfl, by omega, by omega⟩
def rootN (y : F) : F := (fnarrow (fsqrt (fwiden y))).getD none
theorem root_narrow {y : F} (h : FOk .f32 y) : fnarrow (fsqrt (fwiden y)) = some (rootN y) := by
 have key : ∃ z, fnarrow (fsqrt (fwiden y)) = some z := by
  cases y with
  | none => exact ⟨none, rfl⟩
  | some b =>
   have hn := h.some.2
   have hw : fwiden (some b) = some (double.write (single.read b)) := rfl
   have hsq : ∀ R, fsqrt (some R) = ((double.read R).root 54).map double.write := fun _ => rfl
   rw [hw, hsq]
   rcases read_cases (f := single) (fmt_ok .f32) hn with ⟨g1, g2⟩ | ⟨g1, g2⟩
   ·obtain ⟨m, a, e1, e2⟩ := read_fin single g1
    rw [e1]
    by_cases h0 : m = 0
    ·subst h0
     have e3 : double.write (.number (wneg single b) 0 (single.leastPlace + (a : Int))) = double.word (wneg single b) 0 := by
      show double.nearest _ 0 _ = _
      unfold Format.nearest; rw [if_pos rfl]
     rw [e3]
     cases wneg single b <;> exact ⟨_, rfl⟩
    ·obtain ⟨k1, k2, k3⟩ := single_num e1
     obtain ⟨R, r1, r2, r3, r4⟩ := widen_num (s := wneg single b) k1 k2 k3 h0
     have e3 : double.write (.number (wneg single b) m (single.leastPlace + (a : Int))) = double.word (wneg single b) R := r1
     rw [e3, r4]
     have hlog : m.log2 < 24 := log2_lt_of h0 k1
     generalize hM : m * 2 ^ (52 - m.log2) = M
     have hM0 : M ≠ 0 := by rw [← hM]; exact Nat.mul_ne_zero h0 (Nat.ne_of_gt (Nat.two_pow_pos _))
     have hMl : M.log2 = 52 := by rw [← hM, log2_mul_pow h0]; omega
     generalize hP : single.leastPlace + (a : Int) + (m.log2 : Int) - 52 = P
     have hP1 : P ≤ 75 := by omega
     cases hs : wneg single b with
     | true =>
      have : Datum.root 54 (.number true M P) = none := by
       unfold Datum.root
       dsimp only
       rw [if_neg hM0, if_pos rfl]
      rw [this]; exact ⟨none, rfl⟩
     | false =>
      obtain ⟨G, Q, q1, q2, q3⟩ := root_pos hM0 hMl hP1
      rw [q1]
      obtain ⟨m', e', s1, s2⟩ := read_nearest q2 q3
      exact narrow_num (c := double.nearest false G Q) s1 s2
   ·rw [g2]
    cases wneg single b <;> exact ⟨_, rfl⟩
 obtain ⟨z, hz⟩ := key
 unfold rootN
 rw [hz]; rfl
theorem fnarrow_ok {x z : F} (h : fnarrow x = some z) : FOk .f32 z := by
 cases x with
 | none => cases h; exact fok_none _
 | some b =>
  unfold fnarrow at h
  simp only at h
  cases hd : FloatKind.f64.decode b with
  | nan s t => rw [hd] at h; cases h; exact fok_none _
  | infinity s => rw [hd] at h; cases h; exact ⟨_, encode_FR .f32 rfl⟩
  | number s m e =>
   rw [hd] at h
   simp only at h
   split at h
   ·cases h
   ·cases h; exact ⟨_, encode_FR .f32 rfl⟩
theorem rootN_ok {y : F} (h : FOk .f32 y) : FOk .f32 (rootN y) := fnarrow_ok (root_narrow h)
end Go.AM

namespace Go.AM
open Ieee
def lpn (k : FloatKind) : Nat := match k with | .f32 => 149 | .f64 => 1074
def fval (k : FloatKind) (b : Nat) : Int := sval (wneg k.format b) (rval k.format (wrung k.format b))
def Dy (k : FloatKind) (s : Nat) (n : Int) (x : F) : Prop := ∃ b, x = some b ∧ b < 2 ^ k.format.width ∧ wrung k.format b < k.format.infRung ∧ s ≤ lpn k ∧ fval k b = n * ((2 ^ (lpn k - s) : Nat) : Int)
end Go.AM

namespace Go.AM
open Ieee
end Go.AM

set_option linter.unusedVariables false
namespace Go.AM
open Ieee
def Rv (k : FloatKind) (q : Rat) (x : F) : Prop := ∃ n : Int, Dy k (lpn k) n x ∧ (n : Rat) = q * 2 ^ lpn k
theorem p2 (n : Nat) : (0 : Rat) < 2 ^ n := Rat.pow_pos (by decide)
def Fv (x : F) : Prop := ∃ q, Rv .f32 q x
open Classical in
noncomputable def vl (x : F) : Rat := if h : Fv x then h.choose else 0
end Go.AM

namespace Go.AM
abbrev sFc (l : List F) : AV := AV.sl l.length (l.map AV.f32)
def ndB : List Nat → Bool
 | [] => true
 | a :: l => l.all (fun b => !Nat.beq a b) && ndB l
theorem ndB_ok {l : List Nat} (h : ndB l = true) : l.Nodup := by
 induction l with
 | nil => exact List.nodup_nil
 | cons a l ih =>
  simp only [ndB, Bool.and_eq_true, List.all_eq_true] at h
  exact List.nodup_cons.2 ⟨fun hm => by simpa using h.1 a hm, ih h.2⟩
section
variable {P : Program} {N : Nat} {all : Array Oper} {o : Oper} {rest : List Oper} {τ : List (Nat × AV)} {Γ : List Ob} {Q : PQ} {r : AV}
theorem zl {d : Nat} (hl : LOp P o τ r) (h : ROps P N all rest ((d, r) :: τ) Γ Q) (hw : wantT all τ o = some true := by exact rfl) (hd : o.dst = some d := by exact rfl) (hN : Nat.blt d (N / 2) = true := by exact rfl) : ROps P N all (o :: rest) τ Γ Q := ROps.l hw hd hN hl h
theorem za {d : Nat} {x : Operand} (h : ROps P N all rest ((d, r) :: τ) Γ Q) (hw : wantT all τ o = some true := by exact rfl) (hd : o.dst = some d := by exact rfl) (hN : Nat.blt d (N / 2) = true := by exact rfl) (ho : o.op = .assign x := by exact rfl) (hx : ev τ x = r := by exact rfl) : ROps P N all (o :: rest) τ Γ Q := ROps.l hw hd hN (LOp.assign ho hx) h
theorem zQ {id : Nat} {l : List Oper} {y : Code} (h : ROps P N l.toArray l τ Γ (thenQ (fun τ Γ => RunC P N y τ Γ Q) Q)) : RunC P N (.seq (.region id l.toArray false) y) τ Γ Q := RunC.seq (RunC.regionW h)
theorem zN (h : Q .normal τ Γ) : ROps P N all [] τ Γ Q := ROps.nil h
theorem aR {a : AV} : ALe a a := ALe.refl a
theorem yl {d : Nat} (hd : o.dst = some d) (r : AV) (hl : LOp P o τ r) (h : ROps P N all rest ((d, r) :: τ) Γ Q) (hw : wantT all τ o = some true := by exact rfl) (hN : Nat.blt d (N / 2) = true := by exact rfl) : ROps P N all (o :: rest) τ Γ Q := ROps.l hw hd hN hl h
theorem ym {d : Nat} (hd : o.dst = some d) (r : AV) {x : Operand} (h : ROps P N all rest ((d, r) :: τ) Γ Q) (hw : wantT all τ o = some true := by exact rfl) (hN : Nat.blt d (N / 2) = true := by exact rfl) (ho : o.op = .move x := by exact rfl) (hx : ev τ x = r := by exact rfl) : ROps P N all (o :: rest) τ Γ Q := ROps.l hw hd hN (LOp.move ho hx) h
theorem ya {d : Nat} (hd : o.dst = some d) (r : AV) {x : Operand} (h : ROps P N all rest ((d, r) :: τ) Γ Q) (hw : wantT all τ o = some true := by exact rfl) (hN : Nat.blt d (N / 2) = true := by exact rfl) (ho : o.op = .assign x := by exact rfl) (hx : ev τ x = r := by exact rfl) : ROps P N all (o :: rest) τ Γ Q := ROps.l hw hd hN (LOp.assign ho hx) h
theorem yd {d : Nat} (hd : o.dst = some d) (r : AV) (ht : TOp P o τ Γ r []) (h : ROps P N all rest ((d, r) :: τ) Γ Q) (hw : wantT all τ o = some true := by exact rfl) (hN : Nat.blt d (N / 2) = true := by exact rfl) : ROps P N all (o :: rest) τ Γ Q := ROps.d hw hd hN ht rfl h
theorem ye {d : Nat} {fs : List (Nat × List AV)} (hd : o.dst = some d) (r : AV) (Γ' : List Ob) (ht : TOp P o τ Γ r fs) (h : ROps P N all rest ((d, r) :: τ) Γ' Q) (hw : wantT all τ o = some true := by exact rfl) (hN : Nat.blt d (N / 2) = true := by exact rfl) (hΓ : fillOb Γ fs = Γ' := by exact rfl) : ROps P N all (o :: rest) τ Γ Q := ROps.d hw hd hN ht hΓ h
theorem ys {t : TypeId} {x y : Operand} {n p ver off : Nat} {l ys : List AV} (r : AV) (l' : List AV) (Γ' : List Ob) (hn : ∀ w, (sizeOf t).run P w = .ok n w) (h : ROps P N all rest τ Γ' Q) (hw : wantT all τ o = some true := by exact rfl) (ho : o.op = .store t x y := by exact rfl) (hd : o.dst = none := by exact rfl) (hx : ev τ x = .optr p ver off := by exact rfl) (hy : ∀ S μ v, V S μ (ev τ y) v → V S μ r v := by exact ALe.refl _) (hc : r.cells? = some ys := by exact rfl) (hone : ys.all AV.one = true := by exact rfl) (hlen : ys.length = n := by exact rfl) (hp : Γ[p]? = some ⟨ver, some l⟩ := by exact rfl) (hfit : off + ys.length ≤ l.length := by exact Nat.le_of_ble_eq_true rfl) (hl' : overlay l off ys = l' := by exact rfl) (hΓ : Γ.set p ⟨ver, some l'⟩ = Γ' := by exact rfl) : ROps P N all (o :: rest) τ Γ Q := ROps.store_le hw hn ho hd hx hy hc hone hlen hp hfit hl' hΓ h
theorem yE {f : FuncId} {fn : Func} {c : Code} {args : List AV} (hf : P.funcs[f]? = some fn) (k n g : Nat) (τ : List (Nat × AV)) (Γ' : List Ob) {Γo : List Ob} (hb : fn.body = some c) (h : RunC P n c τ Γ' (bodyQ P fn g r Γo)) (hN : Nat.ble args.length fn.ntmps = true := by exact rfl) (hτ : argClaims 0 args = τ := by exact rfl) (hΓ : Γ ++ List.replicate k ⟨0, none⟩ = Γ' := by exact rfl) (hn : n / 2 = fn.ntmps := by exact rfl) (hg : Γ.length = g := by exact rfl) (hz : n % 2 = 1 → g = 0 := by exact fun _ => rfl) : Ev P f args Γ r Γo := Ev.start hf hb hN k hτ hΓ hn hg hz h
theorem yT {c : Operand} {x y : Code} (h : RunC P N x τ Γ Q) (hc : ev τ c = .x (.bool true) := by exact rfl) : RunC P N (.cond c x y) τ Γ Q := RunC.cond_true hc rfl h
theorem yF {c : Operand} {x y : Code} (h : RunC P N y τ Γ Q) (hc : ev τ c = .x (.bool false) := by exact rfl) : RunC P N (.cond c x y) τ Γ Q := RunC.cond_false hc rfl h
theorem yS {x y : Code} (h : RunC P N x τ Γ (thenQ (fun τ Γ => RunC P N y τ Γ Q) Q)) : RunC P N (.seq x y) τ Γ Q := RunC.seq h
theorem yW {id : Nat} {l : List Oper} (h : ROps P N l.toArray l τ Γ Q) : RunC P N (.region id l.toArray false) τ Γ Q := RunC.regionW h
theorem yB {Γ' : List Ob} {fn : Func} {e : Exit} {k : Nat} {r : AV} (r' : AV) (sel : List (Nat × Nat)) (h : Res P fn τ Γ r') (hs : SelL Γ sel sel Γ') (he : e = .normal ∨ e = .ret := by first | exact .inr rfl | exact .inl rfl) (hk : (List.range k).all (fun i => sel[i]? == some (i, 0)) = true := by exact rfl) (hn : ndB (sel.map (·.1)) = true := by exact rfl) (hr : r.ren (sigma sel) = r' := by exact rfl) (hrl : r.lt sel.length = true := by exact rfl) : bodyQ P fn k r Γ' e τ Γ := bodyQ.mk sel he hk (ndB_ok hn) hr hrl h hs
theorem yc {f : FuncId} {A A' : List AV} {args : Array Operand} {tys : Array TypeId} (hc : ∀ vs w, (callFunc f vs).run P w = .ok (.enter f vs) w) (ho : o.op = .call { callee := .value (.func f), args := args, argTypes := tys }) (hA' : args.toList.map (ev τ) = A) (hA : Bors Γ A A') (hev : Ev P f A' [] r []) (hr : r.lt 0 = true := by exact rfl) (hs : r.nos = true := by exact rfl) : TOp P o τ Γ r [] := TOp.callB (CallAs.func hc ho hA') hA hr hs hev
theorem bP {a : AV} {l l' : List AV} (k : Bors Γ l l') (h : a.lt 0 = true := by exact rfl) : Bors Γ (a :: l) (a :: l') := Bors.cons (Bor.pure h) k
theorem bS {α : Type} {f : α → AV} {n : Nat} {m : List α} {l l' : List AV} (k : Bors Γ l l') (hf : ∀ x, (f x).lt 0 = true := by exact fun _ => rfl) : Bors Γ (.sl n (m.map f) :: l) (.sl n (m.map f) :: l') := Bors.cons (Bor.sl hf) k
theorem bN : Bors Γ [] [] := Bors.nil
theorem bN0 {a : AV} (h : a.lt 0 = true := by exact rfl) : Bors Γ [a] [a] := Bors.cons (Bor.pure h) Bors.nil
theorem yp {c x y : Operand} {r : AV} (ho : o.op = .pick c x y := by exact rfl) (hc : ev τ c = .b false := by exact rfl) (hx : ev τ y = r := by exact rfl) : LOp P o τ r := LOp.pick_false ho hc hx
theorem yq {c x y : Operand} {r : AV} (ho : o.op = .pick c x y := by exact rfl) (hc : ev τ c = .b true := by exact rfl) (hx : ev τ x = r := by exact rfl) : LOp P o τ r := LOp.pick_true ho hc hx
theorem n0 {t : TypeId} {x : Operand} (ho : o.op = .unOp .not t x := by exact rfl) (hx : ev τ x = .b false := by exact rfl) : LOp P o τ (.b true) := LOp.not ho hx
theorem n1 {t : TypeId} {x : Operand} (ho : o.op = .unOp .not t x := by exact rfl) (hx : ev τ x = .b true := by exact rfl) : LOp P o τ (.b false) := LOp.not ho hx
theorem yL {t : TypeId} {x : Operand} {n : Nat} {l r : List AV} (hg : ∀ w, (isAgg t).run P w = .ok true w) (hn : ∀ w, (sizeOf t).run P w = .ok n w) (ho : o.op = .load t x := by exact rfl) (hx : ev τ x = .ptr l := by exact rfl) (hr : l.take n = r := by exact rfl) (hl : r.length = n := by exact rfl) : LOp P o τ (.agg r) := LOp.loadAgg hg hn ho hx hr hl
theorem n2 {t : TypeId} {x : Operand} {l : List AV} (hg : ∀ w, (isAgg t).run P w = .ok false w) (ho : o.op = .load t x := by exact rfl) (hx : ev τ x = .ptr (r :: l) := by exact rfl) : LOp P o τ r := LOp.load1 hg ho hx
theorem n3 {x : Operand} {l : List AV} {i : Nat} (ho : o.op = .extract x i := by exact rfl) (hx : ev τ x = .tup l := by exact rfl) (hi : l[i]? = some r := by exact rfl) : LOp P o τ r := LOp.extract ho hx hi
variable {τ' : List (Nat × AV)} {fss : List (List (Nat × List AV))} {bs : List Bool} {n : Nat} {fs : List (Nat × List AV)}
theorem tl {d : Nat} (hd : o.dst = some d) (r : AV) (hl : LOp P o τ r) (h : TRun P all Γ (List.take n rest) ((d, r) :: τ) τ' fss bs) (hw : wantT all τ o = some true := by exact rfl) : TRun P all Γ (List.take (n + 1) (o :: rest)) τ τ' ([] :: fss) (false :: bs) := TR.l hw hd hl h
theorem tm {d : Nat} {x : Operand} (hd : o.dst = some d) (r : AV) (h : TRun P all Γ (List.take n rest) ((d, r) :: τ) τ' fss bs) (hw : wantT all τ o = some true := by exact rfl) (ho : o.op = .move x := by exact rfl) (hx : ev τ x = r := by exact rfl) : TRun P all Γ (List.take (n + 1) (o :: rest)) τ τ' ([] :: fss) (false :: bs) := TR.l hw hd (LOp.move ho hx) h
theorem ts {d : Nat} (hd : o.dst = some d) (h : TRun P all Γ (List.take n rest) ((d, .x undef) :: τ) τ' fss bs) (hw : wantT all τ o = some false := by exact rfl) : TRun P all Γ (List.take (n + 1) (o :: rest)) τ τ' ([] :: fss) (false :: bs) := TR.s hw hd h
theorem oS {α β : Type} {x : Option α} {k : α → Option β} {r : β} (h : obind x k = some r) : ∃ a, x = some a ∧ k a = some r := obind_some h
theorem oB {α : Type} {c : Bool} {x y : Option α} {r : α} (h : bsel c x y = some r) : (c = true ∧ x = some r) ∨ (c = false ∧ y = some r) := bsel_some h
theorem oL {α β : Type} {a : α} {k : α → Option β} {r : β} (h : olet a k = some r) : ∃ x, a = x ∧ k x = some r := olet_some h
theorem oI {α : Type} {a b : α} (h : some a = some b) : a = b := Option.some.inj h
abbrev o0 : Ob := ⟨0, none⟩
abbrev oF (k : Nat) (l : List F) : Ob := ⟨k, some (l.map AV.f32)⟩
abbrev oJ (k : Nat) (l : List Int) : Ob := ⟨k, some (l.map AV.i64)⟩
theorem yR {d : Nat} (hd : o.dst = some d) (h : ROps P N all rest ((d, .x undef) :: τ) Γ Q) (hw : wantT all τ o = some false := by exact rfl) (hN : Nat.blt d (N / 2) = true := by exact rfl) : ROps P N all (o :: rest) τ Γ Q := ROps.s hw hd hN h
theorem bR {fn : Func} {e : Exit} {t : Nat} (hf : fn.results = #[.tmp t]) (h : look τ t = r := by exact rfl) (he : e = .normal ∨ e = .ret := by first | exact .inr rfl | exact .inl rfl) (hr : r.lt 0 = true := by exact rfl) : bodyQ P fn 0 r [] e τ Γ := bodyQ.pure he hr (Res.one hf (RV.tmp h))
theorem sA {sel0 sel : List (Nat × Nat)} {p s : Nat} {l : List F} {Γ' : List Ob} (hp : Γ[p]? = some ⟨s, some (l.map AV.f32)⟩) (h : SelL Γ sel0 sel Γ') : SelL Γ sel0 ((p, s) :: sel) (⟨0, some (l.map AV.f32)⟩ :: Γ') := SelL.arr0 (fun _ => rfl) hp h
theorem yA {t : TypeId} {x : Operand} {p ver off n : Nat} {l r : List AV} (hg : ∀ w, (isAgg t).run P w = .ok true w) (hn : ∀ w, (sizeOf t).run P w = .ok n w) (ho : o.op = .load t x := by exact rfl) (hx : ev τ x = .optr p ver off := by exact rfl) (hp : Γ[p]? = some ⟨ver, some l⟩ := by exact rfl) (hr : (l.drop off).take n = r := by exact rfl) (hl : r.length = n := by exact rfl) : TOp P o τ Γ (.agg r) [] := TOp.loadAgg_o hp hg hn ho hx hr hl
theorem n4 {x : Operand} {l : List AV} (ho : o.op = .nilCheck x := by exact rfl) (hx : ev τ x = .ptr l := by exact rfl) : LOp P o τ (.ptr l) := LOp.nilCheck_ptr ho hx
end
end Go.AM
