/- The abstract layer, fourth part: operations whose value hangs on their operands and on what is settled alone. -/
import Derived.Test.YtmgjiomflefedaaAmRegion
import Derived.WalkKit
import Derived.WalkLawsBesides
namespace Go.AM

abbrev AV.i64 (n : Int) : AV := .x (.int .i64 n)
abbrev AV.b (t : Bool) : AV := .x (.bool t)
abbrev AV.str (s : ByteArray) : AV := .x (.string s)
abbrev AV.f32 (c : F) : AV := .f .f32 c
abbrev AV.f64 (c : F) : AV := .f .f64 c
abbrev AV.nilsl : AV := .x (.slice none 0 0)
def f32s (l : List F) : List AV := l.map AV.f32
def f64s (l : List F) : List AV := l.map AV.f64
def i64s (l : List Int) : List AV := l.map AV.i64
/-- What stands at an index. -/
def rd {α : Type} (d : α) (l : List α) (i : Int) : α := l.getD i.toNat d

section
variable {P : Program} {o : Oper} {τ : List (Nat × AV)}

theorem opnd {S : Snap} {μ : List Mu} {a : Act} (h : ∀ x ∈ o.op.operands, V S μ (ev τ x) (a.eval x)) {x : Operand} (hx : x ∈ o.op.operands) {r : AV} (he : ev τ x = r) : V S μ r (a.eval x) := he ▸ h x hx

theorem cell_of_snap {S : Snap} {w : World} (hw : SnapOK S w) {b : Nat} {cs : Array Value} (hb : S b = some cs) (i : Nat) : w.cell? ⟨b, i, none⟩ = cs[i]? := by
  obtain ⟨T, m, h⟩ := hw b cs hb
  simp [World.cell?, h]

/-- One that only looks at exact values. -/
theorem LOp.move {x : Operand} {r : AV} (ho : o.op = .move x) (hx : ev τ x = r) : LOp P o τ r := by
  intro S μ a h
  refine ⟨a.eval x, fun w _ => by simp [execOp, ho], opnd h (by simp [ho, Op.operands]) hx⟩
theorem LOp.assign {x : Operand} {r : AV} (ho : o.op = .assign x) (hx : ev τ x = r) : LOp P o τ r := by
  intro S μ a h
  refine ⟨a.eval x, fun w _ => by simp [execOp, ho], opnd h (by simp [ho, Op.operands]) hx⟩
theorem LOp.pick_true {c x y : Operand} {r : AV} (ho : o.op = .pick c x y) (hc : ev τ c = .b true) (hx : ev τ x = r) : LOp P o τ r := by
  intro S μ a h
  have h1 := opnd h (x := c) (by simp [ho, Op.operands]) hc
  simp only [V] at h1
  refine ⟨a.eval x, fun w _ => by simp [execOp, ho, h1, asBool], opnd h (by simp [ho, Op.operands]) hx⟩
theorem LOp.pick_false {c x y : Operand} {r : AV} (ho : o.op = .pick c x y) (hc : ev τ c = .b false) (hx : ev τ y = r) : LOp P o τ r := by
  intro S μ a h
  have h1 := opnd h (x := c) (by simp [ho, Op.operands]) hc
  simp only [V] at h1
  refine ⟨a.eval y, fun w _ => by simp [execOp, ho, h1, asBool], opnd h (by simp [ho, Op.operands]) hx⟩
theorem LOp.not {t : TypeId} {x : Operand} {b : Bool} (ho : o.op = .unOp .not t x) (hx : ev τ x = .b b) : LOp P o τ (.b (!b)) := by
  intro S μ a h
  have h1 := opnd h (x := x) (by simp [ho, Op.operands]) hx
  simp only [V] at h1
  refine ⟨.bool !b, fun w _ => by simp [execOp, ho, h1, Op.unary], by simp only [V]⟩
theorem LOp.neg_int {t : TypeId} {x : Operand} {k : IntKind} {n : Int} (ho : o.op = .unOp .neg t x) (hx : ev τ x = .x (.int k n)) : LOp P o τ (.x (.int k (k.wrap (0 - n)))) := by
  intro S μ a h
  have h1 := opnd h (x := x) (by simp [ho, Op.operands]) hx
  simp only [V] at h1
  refine ⟨.int k (k.wrap (0 - n)), fun w _ => by simp [execOp, ho, h1, Op.unary, Op.intArith], by simp only [V]⟩
theorem LOp.bin {op : BinOp} {t ty : TypeId} {x y : Operand} {u v r : Value} (ho : o.op = .binOp op t x y ty) (hx : ev τ x = .x u) (hy : ev τ y = .x v) (hr : ∀ w, (do eqGuard op t x y u v; binOp op t u v : Sem Value).run P w = .ok r w) : LOp P o τ (.x r) := by
  intro S μ a h
  have h1 := opnd h (x := x) (by simp [ho, Op.operands]) hx
  have h2 := opnd h (x := y) (by simp [ho, Op.operands]) hy
  simp only [V] at h1 h2
  refine ⟨r, fun w _ => ?_, by simp only [V]⟩
  have := hr w
  simp only [execOp, ho, h1, h2]
  simp only [Sem.run_bind] at this ⊢
  rw [this]
  rfl
theorem LOp.add {t ty : TypeId} {x y : Operand} {k : IntKind} {m n : Int} (ho : o.op = .binOp .add t x y ty) (hx : ev τ x = .x (.int k m)) (hy : ev τ y = .x (.int k n)) : LOp P o τ (.x (.int k (k.wrap (m + n)))) :=
  LOp.bin ho hx hy fun w => by simp [eqGuard, binOp, Op.intArith]
theorem LOp.sub {t ty : TypeId} {x y : Operand} {k : IntKind} {m n : Int} (ho : o.op = .binOp .sub t x y ty) (hx : ev τ x = .x (.int k m)) (hy : ev τ y = .x (.int k n)) : LOp P o τ (.x (.int k (k.wrap (m - n)))) :=
  LOp.bin ho hx hy fun w => by simp [eqGuard, binOp, Op.intArith]
theorem LOp.mul {t ty : TypeId} {x y : Operand} {k : IntKind} {m n : Int} (ho : o.op = .binOp .mul t x y ty) (hx : ev τ x = .x (.int k m)) (hy : ev τ y = .x (.int k n)) : LOp P o τ (.x (.int k (k.wrap (m * n)))) :=
  LOp.bin ho hx hy fun w => by simp [eqGuard, binOp, Op.intArith]
theorem LOp.quo {t ty : TypeId} {x y : Operand} {k : IntKind} {m n : Int} (ho : o.op = .binOp .quo t x y ty) (hx : ev τ x = .x (.int k m)) (hy : ev τ y = .x (.int k n)) (h0 : n ≠ 0) : LOp P o τ (.x (.int k (k.wrap (m.tdiv n)))) :=
  LOp.bin ho hx hy fun w => by simp [eqGuard, binOp, Op.intDiv, h0]
theorem LOp.rem {t ty : TypeId} {x y : Operand} {k : IntKind} {m n : Int} (ho : o.op = .binOp .rem t x y ty) (hx : ev τ x = .x (.int k m)) (hy : ev τ y = .x (.int k n)) (h0 : n ≠ 0) : LOp P o τ (.x (.int k (m.tmod n))) :=
  LOp.bin ho hx hy fun w => by simp [eqGuard, binOp, Op.intDiv, h0]
theorem LOp.lss {t ty : TypeId} {x y : Operand} {k : IntKind} {m n : Int} (ho : o.op = .binOp .lss t x y ty) (hx : ev τ x = .x (.int k m)) (hy : ev τ y = .x (.int k n)) : LOp P o τ (.b (decide (m < n))) :=
  LOp.bin ho hx hy fun w => by simp [eqGuard, binOp, Op.intCmp]
theorem LOp.leq {t ty : TypeId} {x y : Operand} {k : IntKind} {m n : Int} (ho : o.op = .binOp .leq t x y ty) (hx : ev τ x = .x (.int k m)) (hy : ev τ y = .x (.int k n)) : LOp P o τ (.b (decide (m ≤ n))) :=
  LOp.bin ho hx hy fun w => by simp [eqGuard, binOp, Op.intCmp]
theorem LOp.gtr {t ty : TypeId} {x y : Operand} {k : IntKind} {m n : Int} (ho : o.op = .binOp .gtr t x y ty) (hx : ev τ x = .x (.int k m)) (hy : ev τ y = .x (.int k n)) : LOp P o τ (.b (decide (n < m))) :=
  LOp.bin ho hx hy fun w => by simp [eqGuard, binOp, Op.intCmp]
theorem LOp.geq {t ty : TypeId} {x y : Operand} {k : IntKind} {m n : Int} (ho : o.op = .binOp .geq t x y ty) (hx : ev τ x = .x (.int k m)) (hy : ev τ y = .x (.int k n)) : LOp P o τ (.b (decide (n ≤ m))) :=
  LOp.bin ho hx hy fun w => by simp [eqGuard, binOp, Op.intCmp]
theorem LOp.eql {t ty : TypeId} {x y : Operand} {k : IntKind} {m n : Int} (ho : o.op = .binOp .eql t x y ty) (hx : ev τ x = .x (.int k m)) (hy : ev τ y = .x (.int k n)) : LOp P o τ (.b (decide (m = n))) :=
  LOp.bin ho hx hy fun w => by simp [eqGuard, binOp, Op.intCmp]; rfl
theorem LOp.neq {t ty : TypeId} {x y : Operand} {k : IntKind} {m n : Int} (ho : o.op = .binOp .neq t x y ty) (hx : ev τ x = .x (.int k m)) (hy : ev τ y = .x (.int k n)) : LOp P o τ (.b (!decide (m = n))) :=
  LOp.bin ho hx hy fun w => by simp [eqGuard, binOp, Op.intCmp, bne]; rfl
theorem run_equal_bool {t : TypeId} (ht : P.underlying t = some .bool) (m n : Bool) (w : World) : (Op.equal t (.bool m) (.bool n)).run P w = .ok (m == n) w := by
  show (Op.equalIn (9999 + 1) t (.bool m) (.bool n)).run P w = _
  rw [Op.equalIn]
  simp [run_underlying ht]
theorem LOp.eqlb {t ty : TypeId} {x y : Operand} {m n : Bool} (ht : P.underlying t = some .bool) (ho : o.op = .binOp .eql t x y ty) (hx : ev τ x = .b m) (hy : ev τ y = .b n) : LOp P o τ (.b (m == n)) :=
  LOp.bin ho hx hy fun w => by simp [eqGuard, binOp, run_equal_bool ht]
theorem LOp.neqb {t ty : TypeId} {x y : Operand} {m n : Bool} (ht : P.underlying t = some .bool) (ho : o.op = .binOp .neq t x y ty) (hx : ev τ x = .b m) (hy : ev τ y = .b n) : LOp P o τ (.b (!(m == n))) :=
  LOp.bin ho hx hy fun w => by simp [eqGuard, binOp, run_equal_bool ht]
theorem LOp.i2i {src dst : TypeId} {x : Operand} {k k' : IntKind} {n : Int} (hs : ∃ d, P.underlying src = some d) (hd : P.underlying dst = some (.int k)) (ho : o.op = .convert src dst x) (hx : ev τ x = .x (.int k' n)) : LOp P o τ (.x (.int k (k.wrap n))) := by
  intro S μ a h
  obtain ⟨d, hs⟩ := hs
  have h1 := opnd h (x := x) (by simp [ho, Op.operands]) hx
  simp only [V] at h1
  refine ⟨.int k (k.wrap n), fun w _ => ?_, by simp only [V]⟩
  cases d <;> simp [execOp, ho, h1, convert, run_underlying hs, run_underlying hd, Conv.intToInt]
theorem LOp.extract {x : Operand} {l : List AV} {i : Nat} {r : AV} (ho : o.op = .extract x i) (hx : ev τ x = .tup l) (hi : l[i]? = some r) : LOp P o τ r := by
  intro S μ a h
  have h1 := opnd h (x := x) (by simp [ho, Op.operands]) hx
  simp only [V] at h1
  obtain ⟨cs, h1, h2⟩ := h1
  obtain ⟨v, hv, hr⟩ := h2.get hi
  have hv' : cs[i]? = some v := by simpa using hv
  refine ⟨v, fun w _ => by simp [execOp, ho, h1, Instr.extract, hv'], hr⟩
theorem LOp.nilCheck_ptr {x : Operand} {l : List AV} (ho : o.op = .nilCheck x) (hx : ev τ x = .ptr l) : LOp P o τ (.ptr l) := by
  intro S μ a h
  have h1 := opnd h (x := x) (by simp [ho, Op.operands]) hx
  have h2 := h1
  simp only [V] at h2
  obtain ⟨b, off, cs, h2, _⟩ := h2
  exact ⟨a.eval x, fun w _ => by simp [execOp, ho, h2], h1⟩
theorem LOp.nilCheck_optr {x : Operand} {p ver off : Nat} (ho : o.op = .nilCheck x) (hx : ev τ x = .optr p ver off) : LOp P o τ (.optr p ver off) := by
  intro S μ a h
  have h1 := opnd h (x := x) (by simp [ho, Op.operands]) hx
  have h2 := h1
  simp only [V] at h2
  obtain ⟨m, ad, _, _, h2, _⟩ := h2
  exact ⟨a.eval x, fun w _ => by simp [execOp, ho, h2], h1⟩
theorem LOp.nilCheck_fn {x : Operand} {f : FuncId} {p q : List AV} (ho : o.op = .nilCheck x) (hx : ev τ x = .fn (.func f) p q) : LOp P o τ (.fn (.func f) p q) := by
  intro S μ a h
  have h1 := opnd h (x := x) (by simp [ho, Op.operands]) hx
  have h2 := h1
  simp only [V] at h2
  obtain ⟨ps, qs, h2, _⟩ := h2
  exact ⟨a.eval x, fun w _ => by simp [execOp, ho, h2], h1⟩

theorem Addr.add_mk (b off n : Nat) : Addr.add ⟨b, off, none⟩ n = ⟨b, off + n, none⟩ := by
  unfold Addr.add
  split
  · rename_i h; subst h; rfl
  · rfl
theorem LOp.fieldAddr_ptr {s : TypeId} {x : Operand} {f : Nat} {fs : Array Field} {fd : Field} {n : Nat} {l : List AV} (hs : ∀ w, (underlying s).run P w = .ok (.struct fs) w) (hf : fs[f]? = some fd) (hn : ∀ w, (sizeOf fd.type).run P w = .ok (n + 1) w)
    (ho : o.op = .fieldAddr s x f) (hx : ev τ x = .ptr l) : LOp P o τ (.ptr (l.drop fd.offset)) := by
  intro S μ a h
  have h1 := opnd h (x := x) (by simp [ho, Op.operands]) hx
  simp only [V] at h1
  obtain ⟨b, off, cs, h1, h2, h3⟩ := h1
  refine ⟨.pointer (some ⟨b, off + fd.offset, none⟩), fun w _ => ?_, ?_⟩
  · simp [execOp, ho, h1, Instr.fieldAt, hs, hf, Instr.sureAddr, fieldPlace, hn, Addr.add_mk]
  · simp only [V]
    exact ⟨b, _, cs, rfl, h2, by rw [← List.drop_drop]; exact h3.drop _⟩
theorem LOp.fieldAddr_optr {s : TypeId} {x : Operand} {f : Nat} {fs : Array Field} {fd : Field} {n p ver off : Nat} (hs : ∀ w, (underlying s).run P w = .ok (.struct fs) w) (hf : fs[f]? = some fd) (hn : ∀ w, (sizeOf fd.type).run P w = .ok (n + 1) w)
    (ho : o.op = .fieldAddr s x f) (hx : ev τ x = .optr p ver off) : LOp P o τ (.optr p ver (off + fd.offset)) := by
  intro S μ a h
  have h1 := opnd h (x := x) (by simp [ho, Op.operands]) hx
  simp only [V] at h1
  obtain ⟨m, ad, h1, h2, h3, h4⟩ := h1
  refine ⟨.pointer (some (ad.add fd.offset)), fun w _ => ?_, ?_⟩
  · simp [execOp, ho, h3, Instr.fieldAt, hs, hf, Instr.sureAddr, fieldPlace, hn]
  · simp only [V]
    refine ⟨m, _, h1, h2, rfl, fun e => ?_⟩
    obtain ⟨b, hb, rfl⟩ := h4 e
    exact ⟨b, hb, Addr.add_mk _ _ _⟩
theorem LOp.load1 {t : TypeId} {x : Operand} {r : AV} {l : List AV} (hg : ∀ w, (isAgg t).run P w = .ok false w) (ho : o.op = .load t x) (hx : ev τ x = .ptr (r :: l)) : LOp P o τ r := by
  intro S μ a h
  have h1 := opnd h (x := x) (by simp [ho, Op.operands]) hx
  simp only [V] at h1
  obtain ⟨b, off, cs, h1, h2, h3⟩ := h1
  obtain ⟨v, hv, hr⟩ := h3.get (i := 0) rfl
  have hv' : cs[off]? = some v := by simpa using hv
  refine ⟨v, fun w hw => ?_, hr⟩
  have hc := cell_of_snap hw h2 off
  rw [hv'] at hc
  simp [execOp, ho, h1, Instr.loadAt, Instr.sureAddr, loadVar, hg, hc]
theorem run_loadCells_snap {P : Program} {w : World} {b off : Nat} {vs : List Value} (h : ∀ i v, vs[i]? = some v → w.cell? ⟨b, off + i, none⟩ = some v) : (loadCells ⟨b, off, none⟩ vs.length).run P w = .ok vs.toArray w :=
  run_loadCells_list (P := P) (w := w) ⟨b, off, none⟩ vs (fun j v hj => by rw [Addr.add_mk]; exact h j v hj)
theorem LOp.loadAgg {t : TypeId} {x : Operand} {n : Nat} {l r : List AV} (hg : ∀ w, (isAgg t).run P w = .ok true w) (hn : ∀ w, (sizeOf t).run P w = .ok n w) (ho : o.op = .load t x) (hx : ev τ x = .ptr l) (hr : l.take n = r) (hl : r.length = n) : LOp P o τ (.agg r) := by
  intro S μ a h
  have h1 := opnd h (x := x) (by simp [ho, Op.operands]) hx
  simp only [V] at h1
  obtain ⟨b, off, cs, h1, h2, h3⟩ := h1
  have h4 := h3.take n
  rw [hr] at h4
  have h5 := h4.vl_take
  rw [hl] at h5
  refine ⟨.agg ((cs.toList.drop off).take n).toArray, fun w hw => ?_, by simp only [V]; exact ⟨_, rfl, by simpa using h5⟩⟩
  have hlen : ((cs.toList.drop off).take n).length = n := by rw [h5.length, hl]
  have key := run_loadCells_snap (P := P) (w := w) (b := b) (off := off) (vs := (cs.toList.drop off).take n) (fun i v hi => by
    rw [cell_of_snap hw h2]
    have hlt := lt_of_getElem? hi
    rw [hlen] at hlt
    rw [List.getElem?_take, if_pos hlt, List.getElem?_drop] at hi
    simpa using hi)
  rw [hlen] at key
  simp [execOp, ho, h1, Instr.loadAt, Instr.sureAddr, loadVar, hg, hn, key]
theorem LOp.indexAddr_sl {t e : TypeId} {x ix : Operand} {n : Nat} {l r : List AV} {k : IntKind} {i : Int} (ht : ∀ w, (underlying t).run P w = .ok (.slice e) w) (he : ∀ w, (sizeOf e).run P w = .ok 1 w)
    (ho : o.op = .indexAddr t x ix) (hx : ev τ x = .sl n l) (hi : ev τ ix = .x (.int k i)) (h0 : 0 ≤ i) (h1 : i < n) (hl : l ≠ []) (hr : l.drop i.toNat = r) : LOp P o τ (.ptr r) := by
  intro S μ a h
  have k1 := opnd h (x := x) (by simp [ho, Op.operands]) hx
  have k2 := opnd h (x := ix) (by simp [ho, Op.operands]) hi
  simp only [V] at k1 k2
  obtain ⟨ad, cap, k1, _, k3⟩ := k1
  rcases k3 with k3 | ⟨b, off, cs, rfl, k4, k5⟩
  · exact absurd k3 hl
  · refine ⟨.pointer (some ⟨b, off + i.toNat, none⟩), fun w _ => ?_, ?_⟩
    · simp [execOp, ho, k1, k2, Instr.indexAt, asIntOf, ht, he, h0, h1, Addr.add_mk]
    · simp only [V]
      exact ⟨b, _, cs, rfl, k4, by rw [← List.drop_drop, ← hr]; exact k5.drop _⟩
theorem LOp.indexAddr_oref {t e : TypeId} {x ix : Operand} {p ver off n : Nat} {k : IntKind} {i : Int} (ht : ∀ w, (underlying t).run P w = .ok (.slice e) w) (he : ∀ w, (sizeOf e).run P w = .ok 1 w)
    (ho : o.op = .indexAddr t x ix) (hx : ev τ x = .oref p ver off n) (hi : ev τ ix = .x (.int k i)) (h0 : 0 ≤ i) (h1 : i < n) (Γ : List Ob) {l : List AV} (hΓ : Γ[p]? = some ⟨ver, some l⟩) : TOp P o τ Γ (.optr p ver (off + i.toNat)) [] := by
  intro S μ Γ2 a w hL _ hw h next Q hn
  have k1 := opnd h (x := x) (by simp [ho, Op.operands]) hx
  have k2 := opnd h (x := ix) (by simp [ho, Op.operands]) hi
  simp only [V] at k1 k2
  obtain ⟨m, ad, cap, k3, k4, k5, k6⟩ := k1
  have hv := hw.ver p _ m (hL.2 p ver l hΓ) k3
  have k7 := k6 hv
  cases hb : m.blk with
  | none =>
    rw [hb] at k7
    simp only at k7
    omega
  | some b =>
    rw [hb] at k7
    simp only at k7
    obtain ⟨rfl, k8, k9⟩ := k7
    unfold Oper.wp
    have : (execOp a.eval o).run P w = .ok (.value (.pointer (some ⟨b, off + i.toNat, none⟩))) w := by
      simp [execOp, ho, k5, k2, Instr.indexAt, asIntOf, ht, he, h0, h1, Addr.add_mk]
    rw [this]
    refine hn S μ _ w (SExt.refl S) (SFresh.refl _ S) (MuStep.refl _ _ _) hw ?_ (Grow.refl w)
    simp only [V]
    exact ⟨m, _, k3, k4, rfl, fun _ => ⟨b, hb, rfl⟩⟩
theorem LOp.len_sl {t e : TypeId} {x : Operand} {n : Nat} {l : List AV} (ht : ∀ w, (underlying t).run P w = .ok (.slice e) w) (ho : o.op = .call { callee := .builtin .len, args := #[x], argTypes := #[t] }) (hx : ev τ x = .sl n l) : LOp P o τ (.i64 n) := by
  intro S μ a h
  have k1 := opnd h (x := x) (by simp [ho, Op.operands, Call.operands]) hx
  simp only [V] at k1
  obtain ⟨ad, cap, k1, _⟩ := k1
  refine ⟨.int .i64 n, fun w _ => by simp [execOp, ho, resolve, invoke, builtin, Builtin.len_, ht, k1, goInt], by simp only [V]⟩
theorem LOp.len_oref {t : TypeId} {e : TypeId} {x : Operand} {p ver off n : Nat} (ht : ∀ w, (underlying t).run P w = .ok (.slice e) w) (ho : o.op = .call { callee := .builtin .len, args := #[x], argTypes := #[t] }) (hx : ev τ x = .oref p ver off n) : LOp P o τ (.i64 n) := by
  intro S μ a h
  have k1 := opnd h (x := x) (by simp [ho, Op.operands, Call.operands]) hx
  simp only [V] at k1
  obtain ⟨m, ad, cap, _, _, k1, _⟩ := k1
  refine ⟨.int .i64 n, fun w _ => by simp [execOp, ho, resolve, invoke, builtin, Builtin.len_, ht, k1, goInt], by simp only [V]⟩
theorem LOp.len_nil {t : TypeId} {e : TypeId} {x : Operand} (ht : ∀ w, (underlying t).run P w = .ok (.slice e) w) (ho : o.op = .call { callee := .builtin .len, args := #[x], argTypes := #[t] }) (hx : ev τ x = .nilsl) : LOp P o τ (.i64 0) := by
  intro S μ a h
  have k1 := opnd h (x := x) (by simp [ho, Op.operands, Call.operands]) hx
  simp only [V] at k1
  refine ⟨.int .i64 0, fun w _ => by simp [execOp, ho, resolve, invoke, builtin, Builtin.len_, ht, k1, goInt], by simp only [V]⟩
theorem LOp.len_str {t : TypeId} {x : Operand} {s : ByteArray} (ht : ∀ w, (underlying t).run P w = .ok .string w) (ho : o.op = .call { callee := .builtin .len, args := #[x], argTypes := #[t] }) (hx : ev τ x = .str s) : LOp P o τ (.i64 s.size) := by
  intro S μ a h
  have k1 := opnd h (x := x) (by simp [ho, Op.operands, Call.operands]) hx
  simp only [V] at k1
  refine ⟨.int .i64 s.size, fun w _ => by simp [execOp, ho, resolve, invoke, builtin, Builtin.len_, ht, k1, goInt], by simp only [V]⟩
theorem LOp.field {t : TypeId} {x : Operand} {f : Nat} {fs : Array Field} {fd : Field} {l : List AV} {r : AV} (hs : ∀ w, (underlying t).run P w = .ok (.struct fs) w) (hf : fs[f]? = some fd) (hg : ∀ w, (isAgg fd.type).run P w = .ok false w) (ho : o.op = .field t x f) (hx : ev τ x = .agg l) (hr : l[fd.offset]? = some r) : LOp P o τ r := by
  intro S μ a h
  have k1 := opnd h (x := x) (by simp [ho, Op.operands]) hx
  simp only [V] at k1
  obtain ⟨cs, k1, k2⟩ := k1
  obtain ⟨v, hv, hr⟩ := k2.get hr
  have hv' : cs[fd.offset]? = some v := by simpa using hv
  refine ⟨v, fun w _ => by simp [execOp, ho, k1, Instr.field, hs, hf, asAgg, part, hg, hv'], hr⟩
theorem LOp.makeFunc {f : FuncId} {cap : Array Operand} {q : List AV} (ho : o.op = .makeFunc (.func f) #[] cap) (hq : cap.toList.map (ev τ) = q) : LOp P o τ (.fn (.func f) [] q) := by
  intro S μ a h
  refine ⟨.func (.func f) #[] (cap.map a.eval), fun w _ => by simp [execOp, ho, Instr.makeFunc], ?_⟩
  simp only [V]
  refine ⟨#[], cap.map a.eval, rfl, by simp only [VL], ?_⟩
  subst hq
  have key : ∀ l : List Operand, (∀ x ∈ l, V S μ (ev τ x) (a.eval x)) → VL S μ (l.map (ev τ)) (l.map a.eval) := by
    intro l
    induction l with
    | nil => intro _; simp only [List.map_nil, VL]
    | cons x l ih => intro hl; simp only [List.map_cons, VL]; exact ⟨hl x (by simp), ih fun y hy => hl y (by simp [hy])⟩
  rw [Array.toList_map]
  exact key cap.toList fun x hx => h x (by simpa [ho, Op.operands] using hx)
end
end Go.AM
