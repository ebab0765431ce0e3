/- The abstract layer, part 2. -/
import Derived.Lib.Bytealg
import Derived.Laws.BytesArg
import Derived.ProofKit
import Derived.Test.YtbebfcolmdfopaaDoorAm1
set_option linter.unusedVariables false
/- The layer: a byte of a string. Own work. -/
namespace Go.AM
section
variable {P : Program} {o : Oper} {τ : List (Nat × AV)}
def sat? (s : ByteArray) (i : Int) : Option Int := if 0 ≤ i then (s[i.toNat]?).map (fun b => (b.toNat : Int)) else none
theorem LOp.index_str {t : TypeId} {x ix : Operand} {k : IntKind} {i y : Int} {s : ByteArray} (ht : ∀ w, (underlying t).run P w = .ok .string w) (ho : o.op = .index t x ix) (hx : ev τ x = .x (.string s)) (hi : ev τ ix = .x (.int k i)) (h : sat? s i = some y) : LOp P o τ (.x (.int .u8 y)) := by
  intro S μ c hh
  have k1 := opnd hh (x := x) (by simp [ho, Op.operands]) hx
  have k2 := opnd hh (x := ix) (by simp [ho, Op.operands]) hi
  simp only [V] at k1 k2
  refine ⟨.int .u8 y, fun w _ => ?_, by simp only [V]⟩
  unfold sat? at h
  split at h
  · rename_i h0
    cases hb : s[i.toNat]? with
    | none => rw [hb] at h; cases h
    | some b =>
      rw [hb] at h; simp at h
      simp [execOp, ho, k1, k2, Instr.index, asIntOf, ht, h0, hb, h]
  · cases h
/-- The greater of two numbers; not told where one is a NaN. -/
def fmaxN (k : FloatKind) (x y : F) : Option F := x.bind fun a => y.bind fun b => match k.format.order a b with
  | some .lt => some (some b)
  | some .gt => some (some a)
  | some .eq => some (some (if (k.decode a).neg then b else a))
  | none => none
theorem LOp.max2f {t u : TypeId} {x y : Operand} {k : FloatKind} {a b z : F} (ho : o.op = .call { callee := .builtin .max, args := #[x, y], argTypes := #[t, u] }) (hx : OpF τ x k a) (hy : OpF τ y k b) (h : fmaxN k a b = some z) : LOp P o τ (.f k z) := by
  intro S μ c hh
  obtain ⟨p, e1, f1⟩ := hx S μ c (hh x (by simp [ho, Op.operands, Call.operands]))
  obtain ⟨q, e2, f2⟩ := hy S μ c (hh y (by simp [ho, Op.operands, Call.operands]))
  cases a with
  | none => cases h
  | some a =>
    cases b with
    | none => cases h
    | some b =>
      obtain ⟨rfl, f3⟩ := f1
      obtain ⟨rfl, f4⟩ := f2
      have h : (match k.format.order p q with
        | some .lt => some (some q)
        | some .gt => some (some p)
        | some .eq => some (some (if (k.decode p).neg then q else p))
        | none => none) = some z := h
      cases hd : k.format.order p q with
      | none => rw [hd] at h; cases h
      | some r =>
        rw [hd] at h
        cases r with
        | lt =>
          cases h
          refine ⟨.float k q, fun w _ => ?_, by simp only [V]; exact ⟨q, rfl, rfl, f4⟩⟩
          simp [execOp, ho, resolve, invoke, builtin, Builtin.max_, Builtin.max2, e1, e2, hd]
        | gt =>
          cases h
          refine ⟨.float k p, fun w _ => ?_, by simp only [V]; exact ⟨p, rfl, rfl, f3⟩⟩
          simp [execOp, ho, resolve, invoke, builtin, Builtin.max_, Builtin.max2, e1, e2, hd]
        | eq =>
          cases h
          refine ⟨.float k (if (k.decode p).neg then q else p), fun w _ => ?_, by simp only [V]; refine ⟨_, rfl, rfl, ?_⟩; split <;> assumption⟩
          simp [execOp, ho, resolve, invoke, builtin, Builtin.max_, Builtin.max2, e1, e2, hd]
end
end Go.AM

/- The layer: strings: slices, comparisons, sums; bytes sought and counted. Own work. -/
namespace Go.AM
section
variable {P : Program} {o : Oper} {τ : List (Nat × AV)}
def subs? (s : ByteArray) (i j : Int) : Option ByteArray := if 0 ≤ i ∧ i ≤ j ∧ j ≤ (s.size : Int) then some (s.extract i.toNat j.toNat) else none
def cats? (s t : ByteArray) : Option ByteArray := if s.size + t.size ≤ 9223372036854775807 then some (s ++ t) else none
def eqs (s t : ByteArray) : Bool := s.data.toList == t.data.toList
def idxB (s : ByteArray) (c : Int) : Int := Go.Lib.indexByte s.data.toList c.toNat.toUInt8
def cntB (s : ByteArray) (c : Int) : Int := (Go.Lib.countByte s.data.toList c.toNat.toUInt8 : Nat)
theorem subs?_spec {s r : ByteArray} {i j : Int} (h : subs? s i j = some r) : 0 ≤ i ∧ i ≤ j ∧ j ≤ (s.size : Int) ∧ r = s.extract i.toNat j.toNat := by
  unfold subs? at h
  split at h
  · rename_i hc; exact ⟨hc.1, hc.2.1, hc.2.2, (Option.some.inj h).symm⟩
  · cases h
theorem LOp.subs {t : TypeId} {x lo hi : Operand} {k k' : IntKind} {i j : Int} {s r : ByteArray} (ht : ∀ w, (underlying t).run P w = .ok .string w) (ho : o.op = .slice t x (some lo) (some hi) none) (hx : ev τ x = .str s) (hlo : ev τ lo = .x (.int k i)) (hhi : ev τ hi = .x (.int k' j)) (h : subs? s i j = some r) : LOp P o τ (.str r) := by
  obtain ⟨h0, h1, h2, rfl⟩ := subs?_spec h
  intro S μ c hh
  have k1 := opnd hh (x := x) (by simp [ho, Op.operands]) hx
  have k2 := opnd hh (x := lo) (by simp [ho, Op.operands]) hlo
  have k3 := opnd hh (x := hi) (by simp [ho, Op.operands]) hhi
  simp only [V] at k1 k2 k3
  refine ⟨.string (s.extract i.toNat j.toNat), fun w _ => ?_, by simp only [V]⟩
  simp [execOp, ho, k1, k2, k3, Instr.sliceAt, Instr.slice, Instr.sliceBounds, Instr.sliceBound, asIntOf, ht, h0, h2, show (0:Int) ≤ j from by omega]
  intro hh; omega
theorem LOp.subs_hi {t : TypeId} {x hi : Operand} {k' : IntKind} {j : Int} {s r : ByteArray} (ht : ∀ w, (underlying t).run P w = .ok .string w) (ho : o.op = .slice t x none (some hi) none) (hx : ev τ x = .str s) (hhi : ev τ hi = .x (.int k' j)) (h : subs? s 0 j = some r) : LOp P o τ (.str r) := by
  obtain ⟨h0, h1, h2, rfl⟩ := subs?_spec h
  intro S μ c hh
  have k1 := opnd hh (x := x) (by simp [ho, Op.operands]) hx
  have k3 := opnd hh (x := hi) (by simp [ho, Op.operands]) hhi
  simp only [V] at k1 k3
  refine ⟨.string (s.extract 0 j.toNat), fun w _ => ?_, by simp only [V]; rfl⟩
  simp [execOp, ho, k1, k3, Instr.sliceAt, Instr.slice, Instr.sliceBounds, Instr.sliceBound, asIntOf, ht, h1, h2]
theorem LOp.subs_lo {t : TypeId} {x lo : Operand} {k : IntKind} {i : Int} {s r : ByteArray} (ht : ∀ w, (underlying t).run P w = .ok .string w) (ho : o.op = .slice t x (some lo) none none) (hx : ev τ x = .str s) (hlo : ev τ lo = .x (.int k i)) (h : subs? s i (s.size : Int) = some r) : LOp P o τ (.str r) := by
  obtain ⟨h0, h1, h2, rfl⟩ := subs?_spec h
  intro S μ c hh
  have k1 := opnd hh (x := x) (by simp [ho, Op.operands]) hx
  have k2 := opnd hh (x := lo) (by simp [ho, Op.operands]) hlo
  simp only [V] at k1 k2
  refine ⟨.string (s.extract i.toNat s.size), fun w _ => ?_, by simp only [V]; rfl⟩
  simp [execOp, ho, k1, k2, Instr.sliceAt, Instr.slice, Instr.sliceBounds, Instr.sliceBound, asIntOf, ht, h0, h1]
theorem toListeq (s t : ByteArray) : (s.toList == t.toList) = eqs s t := by simp only [eqs, Go.Lib.toList_data]
theorem LOp.eqs {t ty : TypeId} {x y : Operand} {m n : ByteArray} (ho : o.op = .binOp .eql t x y ty) (hx : ev τ x = .str m) (hy : ev τ y = .str n) : LOp P o τ (.b (AM.eqs m n)) :=
  LOp.bin ho hx hy fun w => by simp [eqGuard, binOp, Op.stringOp, toListeq]
theorem LOp.neqs {t ty : TypeId} {x y : Operand} {m n : ByteArray} (ho : o.op = .binOp .neq t x y ty) (hx : ev τ x = .str m) (hy : ev τ y = .str n) : LOp P o τ (.b (!AM.eqs m n)) :=
  LOp.bin ho hx hy fun w => by simp [eqGuard, binOp, Op.stringOp, toListeq]
theorem LOp.cats {t ty : TypeId} {x y : Operand} {m n r : ByteArray} (ho : o.op = .binOp .add t x y ty) (hx : ev τ x = .str m) (hy : ev τ y = .str n) (h : cats? m n = some r) : LOp P o τ (.str r) := by
  unfold cats? at h
  split at h
  · rename_i hc
    obtain rfl := Option.some.inj h
    refine LOp.bin ho hx hy fun w => ?_
    have : ¬ (((m.size + n.size : Nat) : Int) > IntKind.i64.max) := by
      have e : IntKind.i64.max = 9223372036854775807 := by decide
      rw [e]; omega
    simp only [eqGuard, binOp, Op.stringOp]
    rw [if_neg this]; simp
  · cases h
theorem LOp.idxB {f : FuncId} {x y : Operand} {tys : Array TypeId} {s : ByteArray} {c : Int} (hc : ∀ (b : ByteArray) (i : Int) w, (callFunc f #[.string b, .int .u8 i]).run P w = (do pure (Next.value (← Extern.BytealgIndexByte.indexByte #[.string b, .int .u8 i])) : Sem Next).run P w) (ho : o.op = .call { callee := .value (.func f), args := #[x, y], argTypes := tys }) (hx : ev τ x = .str s) (hy : ev τ y = .x (.int .u8 c)) : LOp P o τ (.i64 (AM.idxB s c)) := by
  intro S μ a h
  have k1 := opnd h (x := x) (by simp [ho, Op.operands, Call.operands]) hx
  have k2 := opnd h (x := y) (by simp [ho, Op.operands, Call.operands]) hy
  simp only [V] at k1 k2
  refine ⟨.int .i64 (AM.idxB s c), fun w _ => ?_, by simp only [V]⟩
  have hfe : a.eval (.func f) = .func (.func f) #[] #[] := rfl
  have := Go.Lib.run_indexByteString (P := P) s c w
  simp [execOp, ho, resolve, hfe, k1, k2, Deferred.ofValue, invoke, hc, this, AM.idxB]
theorem LOp.cntB {f : FuncId} {x y : Operand} {tys : Array TypeId} {s : ByteArray} {c : Int} (hc : ∀ (b : ByteArray) (i : Int) w, (callFunc f #[.string b, .int .u8 i]).run P w = (do pure (Next.value (← Extern.BytealgCount.count #[.string b, .int .u8 i])) : Sem Next).run P w) (ho : o.op = .call { callee := .value (.func f), args := #[x, y], argTypes := tys }) (hx : ev τ x = .str s) (hy : ev τ y = .x (.int .u8 c)) : LOp P o τ (.i64 (AM.cntB s c)) := by
  intro S μ a h
  have k1 := opnd h (x := x) (by simp [ho, Op.operands, Call.operands]) hx
  have k2 := opnd h (x := y) (by simp [ho, Op.operands, Call.operands]) hy
  simp only [V] at k1 k2
  refine ⟨.int .i64 (AM.cntB s c), fun w _ => ?_, by simp only [V]⟩
  have hfe : a.eval (.func f) = .func (.func f) #[] #[] := rfl
  have := Go.Lib.run_countString (P := P) s c w
  simp [execOp, ho, resolve, hfe, k1, k2, Deferred.ofValue, invoke, hc, this, AM.cntB]
end
end Go.AM

/- The layer: bytes to strings; contracts of the library that leave what there was. Own work. -/
namespace Go.AM
section
variable {P : Program} {o : Oper} {τ : List (Nat × AV)} {Γ : List Ob}
theorem TOp.b2s {src dst e : TypeId} {x : Operand} {xs : List Int} {m : Nat} (hs : P.underlying src = some (.slice e)) (he : P.underlying e = some (.int .u8)) (hd : P.underlying dst = some .string) (ho : o.op = .convert src dst x) (hx : ∀ Γ2, LiveLe Γ Γ2 → ReadAs Γ2 (ev τ x) m (xs.map (AV.ik .u8))) : TOp P o τ Γ (.str (strOfNums xs)) [] := by
  intro S μ Γ2 a w hL _ hw h next Q hn
  obtain ⟨hm, hr⟩ := hx Γ2 hL
  obtain ⟨ad, cap, e1, e2⟩ := hr S μ w (a.eval x) hw (h x (by simp [ho, Op.operands]))
  have key : (convert src dst (.slice ad m cap)).run P w = .ok (.string (strOfNums xs)) w := by
    rcases e2 with rfl | ⟨b, off, us, rfl, h1, h2⟩
    · have hxs : xs = [] := by simpa using hm
      subst hxs
      cases ad with
      | none => exact run_convert_bytes_nil w src e hs he 0 cap dst hd
      | some ad =>
        rw [run_convert_bytes_string w src dst e _ 0 cap hs he hd, run_bytesToString w ad 0 cap [] (by simpa using run_loadCells_list (P := P) w ad [] (fun j v hj => by simp at hj))]; rfl
    · refine run_convert_bytes_arg w src e hs he b off m cap xs (by simpa using hm) (fun i hi => ?_) dst hd
      have hi2 : i < xs.length := by simp at hm; omega
      obtain ⟨u, k1, k2⟩ := h1.get (i := i) (a := AV.ik .u8 xs[i]) (by simp [hi2])
      simp only [V] at k2
      rw [h2 i u k1, k2]; simp [List.getD, hi2]
  unfold Oper.wp
  have : (execOp a.eval o).run P w = .ok (.value (.string (strOfNums xs))) w := by simp [execOp, ho, e1, key]
  rw [this]
  exact hn S μ _ w (SExt.refl S) (SFresh.refl _ S) (MuStep.refl _ _ _) hw (by simp only [V]) (Grow.refl w)
/-- []T{..}: settled at once. -/
theorem TOp.buildSlice_s {t e : TypeId} {len : Nat} {parts : Array (Nat × Operand)} {z : Value} {za : AV} {r : List AV} {qs : List (Nat × List AV)} (ht : ∀ w, (underlying t).run P w = .ok (.slice e) w) (hsz : ∀ w, (sizeOf e).run P w = .ok 1 w)
    (hz : ∀ w, (zeroValue e).run P w = .ok z w) (hzc : z.cells = #[z]) (hza : ∀ S μ, V S μ za z) (ho : o.op = .buildSlice t len parts) (hmax : Nat.ble len 16777216 = true) (hps : PartsOk τ parts.toList qs) (hr : fillA (fun i => some (i * 1, 1)) (List.replicate len za) qs = some r) :
    TOp P o τ Γ (.sl len r) [] := by
  intro S μ Γ2 a w _ _ hw hx next Q hnx
  have hfill : ((Array.range (len * 1)).map fun i => (if len * 1 = 0 then (#[] : Array Value) else z.cells)[i % (if len * 1 = 0 then (#[] : Array Value) else z.cells).size]!) = (List.replicate len z).toArray := by
    apply Array.ext'
    simp only [Array.toList_map, Array.toList_range]
    apply List.ext_getElem?
    intro i
    simp only [List.getElem?_map, List.getElem?_replicate, Nat.mul_one]
    rcases Nat.lt_or_ge i len with hlt | hge
    · have : ¬ len = 0 := by omega
      simp [hlt, hzc, Nat.mod_one, this]
    · simp [Nat.not_lt.2 hge]
  have hzl : VL S μ (List.replicate len za) (List.replicate len z) := by
    clear hr hfill hmax
    induction len with
    | zero => simp only [List.replicate_zero, VL]
    | succ k ih => simp only [List.replicate_succ, VL]; exact ⟨hza S μ, by
        refine VL.of_vp ?_ (by simp)
        generalize k = k
        induction k with
        | zero => simp only [List.replicate_zero, VP]
        | succ k ih => simp only [List.replicate_succ, VP]; exact ⟨hza S μ, ih⟩⟩
  obtain ⟨cs', h1, h2⟩ := fill_ok (S := S) (μ := μ) (a := a) (fun i => some (i * 1, 1)) parts.toList qs (List.replicate len za) (List.replicate len z).toArray r hps (fun p hp => hx p.2 (by simp [ho, Op.operands]; exact ⟨p.1, by simpa using hp⟩)) (by simpa using hzl) hr
  have hrun : (execOp a.eval o).run P w = .ok (.value (.slice (some ⟨w.heap.size, 0, none⟩) len len)) (more w cs' e) := by
    have c1 : ¬ (len > 16777216) := by have := Nat.le_of_ble_eq_true hmax; omega
    by_cases hn0 : len = 0
    · subst hn0
      simp only [Nat.zero_mul, List.replicate_zero] at h1 hfill
      simp [execOp, ho, Instr.buildSlice, ht, hsz, newRow, more]
      simp at h1
      rw [show Array.range 0 = #[] from by apply Array.ext'; simp]
      simp [h1]
    · have h9 := hfill
      simp only [Nat.mul_one, if_neg hn0] at h9
      simp [execOp, ho, Instr.buildSlice, ht, hsz, newRow, more, c1, hn0, hz]
      simp at h9
      rw [h9]
      simp at h1
      simp [h1]
  unfold Oper.wp
  rw [hrun]
  have hrl : r.length = len := by
    have : ∀ (qs : List (Nat × List AV)) (c r : List AV), fillA (fun i => some (i * 1, 1)) c qs = some r → r.length = c.length := by
      intro qs
      induction qs with
      | nil => intro c r h; simp only [fillA, Option.some.injEq] at h; rw [h]
      | cons q qs ih =>
        intro c r h
        obtain ⟨i, l⟩ := q
        simp only [fillA] at h
        split at h
        · rename_i hc
          rw [ih _ _ h]
          simp only [overlay, List.length_append, List.length_take, List.length_drop]
          omega
        · cases h
    simpa using this _ _ _ hr
  have hS := snapAdd_ext hw.snap cs'
  refine hnx _ μ _ _ hS (snapAdd_fresh _) (MuStep.refl _ _ _) (hw.settle_new cs' e) ?_ (more_grow w cs' e)
  have hnone : S w.heap.size = none := by
    cases hs : S w.heap.size with
    | none => rfl
    | some c => have := snap_lt hw.snap hs; omega
  simp only [V]
  refine ⟨_, len, rfl, Nat.le_refl _, .inr ⟨w.heap.size, 0, cs', rfl, by simp [snapAdd, hnone], ?_⟩⟩
  exact VP.mono hS (MuLe.refl 0 μ) _ _ (by simpa using h2.vp)
/-- A contract that only lays new blocks and draws. -/
theorem Ev.ofGrow {f : FuncId} {A : List AV} {r : AV} (h : ∀ (S : Snap) (w : World) (vs : Array Value), SnapOK S w → VL S [] A vs.toList → Calls P f vs w fun e w' => ∃ v, e = .returned v ∧ V S [] r v ∧ Grow w w') : Ev P f A [] r [] := by
  intro S μ w vs hw ha
  have hμ : μ = [] := by have := hw.len; simpa using this
  subst hμ
  refine (h S w vs hw.snap ha).mono ?_
  rintro e w' ⟨v, rfl, hv, hg⟩
  exact ⟨v, S, [], rfl, hv, hw.grow hg, ⟨SExt.refl S, fun i m hi => by simp at hi, fun i m b hi => by simp at hi, fun b hb _ => hg.block b hb, hg.size, hg.os, hg.tape, hg.output, fun b c hb => .inl hb⟩⟩
theorem globs_at {S : Snap} {w : World} (h : SnapOK S w) {g : Nat} {cs : Array Value} (hg : (g, cs) ∈ globs) : ∃ T m, w.heap[g]? = some (.cells cs T m) := h g cs (S.2.1 (g, cs) hg)
theorem globs_err {S : Snap} {w : World} (h : SnapOK S w) {g : Nat} (hg : g ∈ globsI) : ∃ v, w.cell? ⟨g, 0, none⟩ = some v ∧ (v = .nilIface ∨ ∃ t p, v = .iface t p) := by
  obtain ⟨v, e, k⟩ := S.2.2 g hg
  obtain ⟨T, m, hT⟩ := h g _ e
  exact ⟨v, by simp [World.cell?, hT], k⟩
/-- An error beside nil. -/
theorem LOp.neq_nil_nil {t ty : TypeId} {ms : Array (String × TypeId)} {x : Operand} (ht : P.underlying t = some (.interface ms)) (ho : o.op = .binOp .neq t x (.const .nilIface) ty) (hx : ev τ x = .x .nilIface) : LOp P o τ (.b false) := by
  refine LOp.bin ho hx (v := .nilIface) rfl fun w => ?_
  have e : (Op.equal t .nilIface .nilIface).run P w = .ok true w := by
    show (Op.equalIn (9999 + 1) t .nilIface .nilIface).run P w = _
    rw [Op.equalIn]; simp [run_underlying ht]
  simp [eqGuard, binOp, e]
theorem LOp.neq_nni {t ty : TypeId} {ms : Array (String × TypeId)} {x y : Operand} (ht : P.underlying t = some (.interface ms)) (ho : o.op = .binOp .neq t x y ty) (hx : ev τ x = .nni) (hy : ev τ y = .x .nilIface) : LOp P o τ (.b true) := by
  intro S μ a hh
  have k1 := opnd hh (x := x) (by simp [ho, Op.operands]) hx
  have k2 := opnd hh (x := y) (by simp [ho, Op.operands]) hy
  simp only [V] at k1 k2
  obtain ⟨te, pv, k1⟩ := k1
  refine ⟨.bool true, fun w _ => ?_, by simp only [V]⟩
  have e : (Op.equal t (.iface te pv) .nilIface).run P w = .ok false w := by
    show (Op.equalIn (9999 + 1) t (.iface te pv) .nilIface).run P w = _
    rw [Op.equalIn]; simp [run_underlying ht]
  simp [execOp, ho, k1, k2, eqGuard, binOp, e]
end
end Go.AM

/- The layer: arrays of one's own, shifts, tables. Own work. -/
namespace Go.AM
section
variable {P : Program} {o : Oper} {τ : List (Nat × AV)} {Γ : List Ob}
theorem VL.repl {S : Snap} {μ : List Mu} {a : AV} {v : Value} (h : V S μ a v) : ∀ n : Nat, VL S μ (List.replicate n a) (List.replicate n v)
  | 0 => by simp only [List.replicate_zero, VL]
  | n + 1 => by simp only [List.replicate_succ, VL]; exact ⟨h, VL.repl h n⟩
theorem zok_arr {n : Nat} {k : IntKind} : ZeroOk ((List.replicate n (0 : Int)).map (AV.ik k)) (.agg (List.replicate n (Value.int k 0)).toArray) := by
  intro S μ
  rw [List.map_replicate]
  show VL S μ (List.replicate n (AV.ik k 0)) (List.replicate n (Value.int k 0)).toArray.toList
  exact VL.repl (by simp only [V]) n
/-- An element of an own array. -/
theorem TOp.ixa {t e : TypeId} {x ix : Operand} {p ver n : Nat} {k : IntKind} {i : Int} {l : List AV} (ht : ∀ w, (underlying t).run P w = .ok (.array n e) w) (he : ∀ w, (sizeOf e).run P w = .ok 1 w)
    (ho : o.op = .indexAddr t x ix) (hx : ev τ x = .optr p ver 0) (hi : ev τ ix = .x (.int k i)) (hb : 0 ≤ i ∧ i < n) (hΓ : Γ[p]? = some ⟨ver, some l⟩) : TOp P o τ Γ (.optr p ver i.toNat) [] := by
  intro S μ Γ2 a w hL _ hw h next Q hn
  have k1 := opnd h (x := x) (by simp [ho, Op.operands]) hx
  have k2 := opnd h (x := ix) (by simp [ho, Op.operands]) hi
  simp only [V] at k1 k2
  obtain ⟨m, ad, k3, k4, k5, k6⟩ := k1
  have hv := hw.ver p _ m (hL.2 p ver l hΓ) k3
  obtain ⟨b, hbk, rfl⟩ := k6 hv
  unfold Oper.wp
  have : (execOp a.eval o).run P w = .ok (.value (.pointer (some ⟨b, i.toNat, none⟩))) w := by
    simp [execOp, ho, k5, k2, Instr.indexAt, Instr.sureAddr, asIntOf, ht, he, hb.1, hb.2, Addr.add_mk]
  rw [this]
  refine hn S μ _ w (SExt.refl S) (SFresh.refl _ S) (MuStep.refl _ _ _) hw ?_ (Grow.refl w)
  simp only [V]
  exact ⟨m, _, k3, k4, rfl, fun _ => ⟨b, hbk, rfl⟩⟩
/-- A slice of a settled array, from a place on. -/
theorem LOp.sla {α : Type} {f : α → AV} {L : List α} {t e : TypeId} {x lo : Operand} {n : Nat} {k : IntKind} {i : Int} (ht : ∀ w, (underlying t).run P w = .ok (.array n e) w) (he : ∀ w, (sizeOf e).run P w = .ok 1 w)
    (ho : o.op = .slice t x (some lo) none none) (hx : ev τ x = .ptr (L.map f)) (hlo : ev τ lo = .x (.int k i)) (hL : L.length = n) (hb : 0 ≤ i ∧ i < n) : LOp P o τ (.sl (L.drop i.toNat).length ((L.drop i.toNat).map f)) := by
  intro S μ a hh
  have k1 := opnd hh (x := x) (by simp [ho, Op.operands]) hx
  have k2 := opnd hh (x := lo) (by simp [ho, Op.operands]) hlo
  simp only [V] at k1 k2
  obtain ⟨b, off, cs, k3, k4, k5⟩ := k1
  refine ⟨.slice (some ⟨b, off + i.toNat, none⟩) (n - i.toNat) (n - i.toNat), fun w _ => ?_, ?_⟩
  · have hne : ¬ n = i.toNat := by omega
    simp [execOp, ho, k2, k3, Instr.sliceAt, Instr.sureAddr, Instr.sliceBounds, Instr.sliceBound, asIntOf, ht, he, hb.1, show i ≤ (n : Int) from by omega, hne, Addr.add_mk]
  · simp only [V]
    refine ⟨_, _, by rw [List.length_drop, hL], by rw [List.length_drop, hL]; exact Nat.le_refl _, .inr ⟨b, off + i.toNat, cs, rfl, k4, ?_⟩⟩
    rw [← List.drop_drop, List.map_drop]
    exact k5.drop _
/-- An own array lent or settled. -/
theorem Bor.arr {α : Type} {f : α → AV} (hf : ∀ x, (f x).lt 0 = true) {p ver : Nat} {l : List α} (hp : Γ[p]? = some ⟨ver, some (l.map f)⟩) : Bor Γ (.optr p ver 0) (.ptr (l.map f)) :=
  Bor.optr hp (Bors.pure (lts0_map hf l)).p rfl
theorem par_in {a : Int} {n : Nat} (h : (decide (0 ≤ a) && decide (a < (n : Int))) = true) : 0 ≤ a ∧ a < n := by simpa using h
def ishr (k : IntKind) (m n : Int) : Int := m.fdiv (2 ^ (min n.toNat k.bits))
theorem LOp.shr {t ty : TypeId} {x y : Operand} {k yk : IntKind} {m n : Int} (ho : o.op = .binOp .shr t x y ty) (hx : ev τ x = .x (.int k m)) (hy : ev τ y = .x (.int yk n)) (hn : 0 ≤ n) : LOp P o τ (.x (.int k (ishr k m n))) :=
  LOp.bin ho hx hy fun w => by simp [eqGuard, binOp, Op.shift, show ¬ n < 0 from by omega, ishr]
def iand (k : IntKind) (m n : Int) : Int := k.wrap ((BitVec.ofInt k.bits m &&& BitVec.ofInt k.bits n).toNat : Int)
theorem LOp.iand {t ty : TypeId} {x y : Operand} {k : IntKind} {m n : Int} (ho : o.op = .binOp .and t x y ty) (hx : ev τ x = .x (.int k m)) (hy : ev τ y = .x (.int k n)) : LOp P o τ (.x (.int k (AM.iand k m n))) :=
  LOp.bin ho hx hy fun w => by simp [eqGuard, binOp, Op.intBits, AM.iand]
/-- An element of a table. -/
theorem LOp.gix {t e : TypeId} {ix : Operand} {n g : Nat} {k ik : IntKind} {i z : Int} {zs : List Int} (ht : ∀ w, (underlying t).run P w = .ok (.array n e) w) (he : ∀ w, (sizeOf e).run P w = .ok 1 w)
    (ho : o.op = .indexAddr t (.global g) ix) (hi : ev τ ix = .x (.int k i)) (hg : (g, (zs.map fun z => Value.int ik z).toArray) ∈ globs) (hn : zs.length = n) (hz : at? zs i = some z) : LOp P o τ (.ptr [.x (.int ik z)]) := by
  obtain ⟨h0, h1, h2⟩ := at?_spec hz
  intro S μ a hh
  have k2 := opnd hh (x := ix) (by simp [ho, Op.operands]) hi
  simp only [V] at k2
  have hge : a.eval (.global g) = .pointer (some ⟨g, 0, none⟩) := rfl
  refine ⟨.pointer (some ⟨g, i.toNat, none⟩), fun w _ => ?_, ?_⟩
  · simp [execOp, ho, hge, k2, Instr.indexAt, Instr.sureAddr, asIntOf, ht, he, h0, show i < (n : Int) from by omega, Addr.add_mk]
  · simp only [V]
    refine ⟨g, i.toNat, _, rfl, S.2.1 _ hg, ?_⟩
    have : ((zs.map fun z => Value.int ik z).toArray.toList.drop i.toNat) = Value.int ik z :: (zs.map fun z => Value.int ik z).drop (i.toNat + 1) := by
      have hlt : i.toNat < (zs.map fun z => Value.int ik z).length := by simpa using h1
      simp only [List.drop_eq_getElem_cons hlt]
      rw [List.getElem?_eq_getElem h1] at h2
      rw [List.getElem_map, Option.some.inj h2]
    rw [this]
    simp only [VP, V, and_self]
end
end Go.AM

/- The abstract layer, the door: readable arguments are claims; a law's contract is what its row asks. -/
namespace Go.AM
open Go.RowKit Go.ChangeShapes

def snapF (w : World) : Nat → Option (Array Value) := fun b => match w.heap[b]? with
  | some (.cells cs _ _) => some cs
  | _ => none
/-- The listed variables hold what they are said to hold. -/
def GlobsIn (w : World) : Prop := GP (snapF w)
def snapOf (w : World) (hg : GlobsIn w) : Snap := ⟨snapF w, hg⟩
theorem snapOf_some {w : World} {hg : GlobsIn w} {b : Nat} {cs : Array Value} (h : snapOf w hg b = some cs) : ∃ T m, w.heap[b]? = some (.cells cs T m) := by
  simp only [snapOf, snapF] at h
  split at h
  · rename_i cs' T m e; simp at h; subst h; exact ⟨T, m, e⟩
  · cases h
theorem snapOf_wi (w : World) (hg : GlobsIn w) : WI (snapOf w hg) [] [] w := ⟨fun _ _ h => snapOf_some h, rfl, by simp, by simp, by simp⟩

theorem law_run {P : Program} {f : FuncId} {A : List AV} {vs : Array Value} {W : World} {hg : GlobsIn W} (hev : Ev P f A [] (.b true) []) (hA : VL (snapOf W hg) [] A vs.toList) : Calls P f vs W fun e w' => e = .returned (.bool true) ∧ Below W.heap.size W w' := by
  refine (hev (snapOf W hg) [] W vs (snapOf_wi W hg) hA).mono ?_
  rintro e w' ⟨v, S', μ', rfl, hv, _, hfr⟩
  simp only [V] at hv
  subst hv
  exact ⟨rfl, hfr.os, hfr.tape, hfr.output, hfr.size, fun k hk => hfr.keep k hk (fun i m hi => by simp at hi)⟩

theorem VLn {S : Snap} {μ : List Mu} : VL S μ [] [] := by simp only [VL]
theorem VLc {S : Snap} {μ : List Mu} {a : AV} {v : Value} {l : List AV} {vs : List Value} (h : V S μ a v) (k : VL S μ l vs) : VL S μ (a :: l) (v :: vs) := by simp only [VL]; exact ⟨h, k⟩
/-- Cells that are read at type t are claims of the kind G. -/
def Op1 (P : Program) (t : TypeId) (G : List AV → Prop) : Prop :=
  ∀ (H : Type) (enc : TypeId × Value → H) (w : World) (hg : GlobsIn w) (base : Nat) (spare : Nat → Bool) (held : Bool) (fuel : Nat) (cs : List Value) (x : DataW H × List MemPlace), DataW.trod enc P w base spare held fuel t cs = some x → ∃ l, G l ∧ VL (snapOf w hg) [] l cs
theorem Op1.mono {P : Program} {t : TypeId} {G G' : List AV → Prop} (h : Op1 P t G) (k : ∀ l, G l → G' l) : Op1 P t G' := fun H enc w hg b s d n cs x hx => (h H enc w hg b s d n cs x hx).elim fun l hl => ⟨l, k l hl.1, hl.2⟩
theorem VL.single {S : Snap} {μ : List Mu} {a : AV} {v : Value} (h : V S μ a v) : VL S μ [a] [v] := by simp only [VL]; exact ⟨h, trivial⟩
theorem VL.single_inv {S : Snap} {μ : List Mu} {a : AV} {vs : List Value} (h : VL S μ [a] vs) : ∃ v, vs = [v] ∧ V S μ a v := by
  match vs, h with
  | [], h => simp only [VL] at h
  | [v], h => simp only [VL] at h; exact ⟨v, rfl, h.1⟩
  | _ :: _ :: _, h => simp only [VL] at h; exact absurd h.2 (by simp)
theorem Op1.int {P : Program} {t : TypeId} {k : IntKind} (ht : P.underlying t = some (.int k)) : Op1 P t (fun l => ∃ n : Int, (Lit.int k n).wf = true ∧ l = [.x (.int k n)]) := by
  intro H enc w hg base spare held fuel cs x h
  obtain ⟨n, rfl, _, hw⟩ := DataW.trod_int ht h
  exact ⟨_, ⟨n, hw, rfl⟩, VL.single (by simp only [V])⟩
theorem Op1.bool {P : Program} {t : TypeId} (ht : P.underlying t = some .bool) : Op1 P t (fun l => ∃ b : Bool, True ∧ l = [.b b]) := by
  intro H enc w hg base spare held fuel cs x h
  obtain ⟨b, rfl, _⟩ := DataW.trod_bool ht h
  exact ⟨_, ⟨b, trivial, rfl⟩, VL.single (by simp only [V])⟩
theorem Op1.string {P : Program} {t : TypeId} (ht : P.underlying t = some .string) : Op1 P t (fun l => ∃ s : ByteArray, s.size ≤ maxLen ∧ l = [.str s]) := by
  intro H enc w hg base spare held fuel cs x h
  obtain ⟨b, rfl, _, hs⟩ := DataW.trod_string ht h
  exact ⟨_, ⟨b, hs, rfl⟩, VL.single (by simp only [V])⟩
def FOk (k : FloatKind) (c : F) : Prop := ∃ b, FR k b c
theorem FR.any {k : FloatKind} {b : Nat} (h : b < 2 ^ k.format.width) : ∃ c : F, FR k b c := by
  cases hn : (k.format.read b).isNaN with
  | true => exact ⟨none, h, hn⟩
  | false => exact ⟨some b, rfl, h, hn⟩
theorem trod_float {H : Type} {enc : TypeId × Value → H} {P : Program} {w : World} {base : Nat} {spare : Nat → Bool} {held : Bool} {fuel : Nat} {t : TypeId} {cs : List Value} {x : DataW H × List MemPlace} {k : FloatKind} (ht : P.underlying t = some (.float k)) (h : DataW.trod enc P w base spare held fuel t cs = some x) :
    ∃ b, cs = [.float k b] ∧ (Lit.float k b).wf = true := by
  cases fuel with
  | zero => simp [DataW.trod] at h
  | succ n =>
    unfold DataW.trod at h
    rw [ht] at h
    split at h <;> simp_all
theorem wf_float {k : FloatKind} {b : Nat} (h : (Lit.float k b).wf = true) : b < 2 ^ k.format.width := by
  cases k
  · have : b < 4294967296 := by simpa [Lit.wf, FloatKind.has] using h
    exact this
  · have : b < 18446744073709551616 := by simpa [Lit.wf, FloatKind.has] using h
    exact this
theorem Op1.float {P : Program} {t : TypeId} {k : FloatKind} (ht : P.underlying t = some (.float k)) : Op1 P t (fun l => ∃ c : F, FOk k c ∧ l = [.f k c]) := by
  intro H enc w hg base spare held fuel cs x h
  obtain ⟨b, rfl, hw⟩ := trod_float ht h
  obtain ⟨c, hc⟩ := FR.any (wf_float hw)
  exact ⟨_, ⟨c, ⟨b, hc⟩, rfl⟩, VL.single (by simp only [V]; exact ⟨b, rfl, hc⟩)⟩
theorem exists_list {α : Type} {Q : Nat → α → Prop} : ∀ (n : Nat), (∀ i, i < n → ∃ z, Q i z) → ∃ L : List α, L.length = n ∧ ∀ i z, L[i]? = some z → Q i z
  | 0, _ => ⟨[], rfl, by simp⟩
  | n + 1, h => by
    obtain ⟨L, h1, h2⟩ := exists_list n (fun i hi => h i (by omega))
    obtain ⟨z, hz⟩ := h n (by omega)
    refine ⟨L ++ [z], by simp [h1], fun i y hy => ?_⟩
    rcases Nat.lt_or_ge i L.length with hi | hi
    · rw [List.getElem?_append_left hi] at hy; exact h2 i y hy
    · rw [List.getElem?_append_right hi] at hy
      have := lt_of_getElem? hy
      simp at this
      have e : i = n := by omega
      subst e
      rw [h1] at hy
      simp at hy
      subst hy; exact hz
theorem VP.of_each {α : Type} {S : Snap} {μ : List Mu} {f : α → AV} : ∀ (L : List α) (vs : List Value), (∀ (i : Nat) (z : α), L[i]? = some z → ∃ c, vs[i]? = some c ∧ V S μ (f z) c) → VP S μ (L.map f) vs
  | [], _, _ => by simp only [List.map_nil, VP]
  | z :: L, vs, h => by
    obtain ⟨c, h1, h2⟩ := h 0 z rfl
    cases vs with
    | nil => simp at h1
    | cons v vs =>
      simp at h1
      subst h1
      simp only [List.map_cons, VP]
      exact ⟨h2, VP.of_each L vs fun i y hy => by simpa using h (i + 1) y (by simpa using hy)⟩
theorem Op1.slice {α : Type} {P : Program} {t e : TypeId} {f : α → AV} {good : α → Prop} (ht : P.underlying t = some (.slice e)) (hc : P.cellsOf e = 1) (he : Op1 P e (fun l => ∃ z, good z ∧ l = [f z])) :
    Op1 P t (fun l => ∃ L : List α, ((∀ z ∈ L, good z) ∧ L.length ≤ maxLen) ∧ l = [.sl L.length (L.map f)]) := by
  intro H enc w hg base spare held fuel cs x h
  rcases DataW.trod_slice ht h with ⟨rfl, _⟩ | ⟨a, len, cap, elems, rest, n, rfl, rfl, _, hb, hl, hm, hlen, hel, _, _⟩
  · exact ⟨_, ⟨[], ⟨by simp, by simp⟩, rfl⟩, VL.single (by simp only [V]; exact ⟨none, 0, rfl, Nat.le_refl _, .inl rfl⟩)⟩
  · have each : ∀ i, i < len → ∃ z, good z ∧ ∃ c, w.cell? (a.add i) = some c ∧ V (snapOf w hg) [] (f z) c := by
      intro i hi
      have h1 := hel i hi
      have h2 : ∃ y, elems[i]? = some y := getElem?_of_lt (by omega)
      obtain ⟨y, hy⟩ := h2
      rw [hy, hc, Nat.mul_one, Option.bind_eq_some_iff] at h1
      obtain ⟨cs', k1, k2⟩ := h1
      obtain ⟨l, ⟨z, hz, rfl⟩, k3⟩ := he H enc w hg base spare held n cs' y k2
      obtain ⟨c, rfl, k4⟩ := VL.single_inv k3
      exact ⟨z, hz, c, cell_of_cells?_one k1, k4⟩
    obtain ⟨L, hL, hLQ⟩ := exists_list (Q := fun i z => good z ∧ ∃ c, w.cell? (a.add i) = some c ∧ V (snapOf w hg) [] (f z) c) len each
    refine ⟨_, ⟨L, ⟨fun z hz => ?_, by omega⟩, rfl⟩, VL.single ?_⟩
    · obtain ⟨i, hi⟩ := List.getElem?_of_mem hz
      exact (hLQ i z hi).1
    · simp only [V]
      refine ⟨some a, cap, by rw [hL], by omega, ?_⟩
      by_cases h0 : len = 0
      · left
        have : L = [] := List.eq_nil_of_length_eq_zero (by omega)
        rw [this]; rfl
      · right
        obtain ⟨z, _, c, hc0, _⟩ := each 0 (by omega)
        obtain ⟨ab, ao, asp⟩ := a
        have hsp : asp = none := by
          cases asp with
          | none => rfl
          | some s => simp [World.cell?, Addr.add] at hc0; split at hc0 <;> simp_all
        subst hsp
        simp only [Addr.add_mk] at hc0 hLQ
        cases hh : w.heap[ab]? with
        | none => simp [World.cell?, hh] at hc0
        | some ob =>
          cases ob with
          | cells cs T m =>
            refine ⟨ab, ao, cs, rfl, by simp [snapOf, snapF, hh], VP.of_each L _ fun i z hz => ?_⟩
            obtain ⟨_, c', k1, k2⟩ := hLQ i z hz
            refine ⟨c', ?_, k2⟩
            simp [World.cell?, hh] at k1
            rw [List.getElem?_drop]
            simpa using k1
          | _ => simp [World.cell?, hh] at hc0

/-- Field after field. -/
def GS : List (List AV → Prop) → List AV → Prop
  | [], l => l = []
  | G :: Gs, l => ∃ a b, G a ∧ GS Gs b ∧ l = a ++ b
def FieldsOp (P : Program) : List Field → Nat → List (List AV → Prop) → Prop
  | [], _, [] => True
  | f :: fs, off, G :: Gs => f.offset = off ∧ Op1 P f.type G ∧ FieldsOp P fs (off + P.cellsOf f.type) Gs
  | _, _, _ => False
def cellsSum (P : Program) (fs : List Field) : Nat := (fs.map fun f => P.cellsOf f.type).sum
theorem trod_len {H : Type} {enc : TypeId × Value → H} {P : Program} {w : World} (hg : GlobsIn w) {base : Nat} {spare : Nat → Bool} {held : Bool} {n : Nat} : ∀ {fs : List Field} {off : Nat} {Gs : List (List AV → Prop)} {cs : List Value} (_ : FieldsOp P fs off Gs) (_ : ∀ f ∈ fs, ∃ x, DataW.trod enc P w base spare held n f.type ((cs.drop f.offset).take (P.cellsOf f.type)) = some x) (_ : cs.length = off + cellsSum P fs),
    ∃ l, GS Gs l ∧ VL (snapOf w hg) [] l (cs.drop off)
  | [], off, [], cs, _, _, hl => by
    refine ⟨[], rfl, ?_⟩
    have : cs.drop off = [] := List.drop_eq_nil_of_le (by simp [cellsSum] at hl; omega)
    rw [this]; simp only [VL]
  | f :: fs, off, G :: Gs, cs, hf, hx, hl => by
    obtain ⟨h1, h2, h3⟩ := hf
    subst h1
    obtain ⟨x, hx1⟩ := hx f (by simp)
    obtain ⟨a, k1, k2⟩ := h2 _ _ _ hg _ _ _ _ _ _ hx1
    simp only [cellsSum, List.map_cons, List.sum_cons] at hl
    obtain ⟨b, k3, k4⟩ := trod_len hg (off := f.offset + P.cellsOf f.type) h3 (fun g hg => hx g (by simp [hg])) (by simp only [cellsSum]; omega)
    refine ⟨a ++ b, ⟨a, b, k1, k3, rfl⟩, ?_⟩
    have : cs.drop f.offset = (cs.drop f.offset).take (P.cellsOf f.type) ++ cs.drop (f.offset + P.cellsOf f.type) := by rw [← List.drop_drop, List.take_append_drop]
    rw [this]
    exact VL.app k2 k4
  | [], _, _ :: _, _, h, _, _ => h.elim
  | _ :: _, _, [], _, h, _, _ => h.elim
theorem Op1.struct {P : Program} {t : TypeId} {fs : Array Field} {Gs : List (List AV → Prop)} (ht : P.underlying t = some (.struct fs)) (hc : P.cellsOf t = cellsSum P fs.toList) (hf : FieldsOp P fs.toList 0 Gs) : Op1 P t (GS Gs) := by
  intro H enc w hg base spare held fuel cs x h
  obtain ⟨xs, n, rfl, _, hl, hxs, hx⟩ := DataW.trod_struct ht h
  obtain ⟨l, k1, k2⟩ := trod_len hg (n := n) (cs := cs) hf (fun f hf => by
    obtain ⟨i, hi⟩ := List.getElem?_of_mem hf
    have hi' : fs[i]? = some f := by simpa using hi
    obtain ⟨y, hy⟩ : ∃ y, xs[i]? = some y := getElem?_of_lt (by rw [hxs]; exact (Array.getElem?_eq_some_iff.1 hi').1)
    exact ⟨y, by rw [hx i f hi', hy]⟩) (by rw [hl, hc]; simp)
  exact ⟨l, k1, by simpa using k2⟩

/-- An argument. -/
theorem open_struct {base : Nat} {H : Type} {enc : TypeId × Value → H} {P : Program} {W : World} (hg : GlobsIn W) {t : TypeId} {v : Value} {d : DataW H} {ps : List MemPlace} {fs : Array Field} {G : List AV → Prop} (ht : P.underlying t = some (.struct fs)) (hG : Op1 P t G) (hv : Value.okWide P W .any base t v) (h : DataW.Trod enc P W 0 (fun _ => true) true t v d ps) :
    ∃ l, G l ∧ V (snapOf W hg) [] (.agg l) v := by
  obtain ⟨cs, rfl, _⟩ := WideShapes.okWide_struct ht hv
  obtain ⟨fuel, h⟩ := h
  obtain ⟨l, h1, h2⟩ := hG _ _ _ hg _ _ _ _ _ _ h
  refine ⟨l, h1, ?_⟩
  simp only [V]
  exact ⟨cs, rfl, by simpa [Value.cells] using h2⟩
theorem open_one {H : Type} {enc : TypeId × Value → H} {P : Program} {W : World} (hg : GlobsIn W) {t : TypeId} {v : Value} {d : DataW H} {ps : List MemPlace} {α : Type} {f : α → AV} {good : α → Prop} (hcell : v.cells = #[v]) (hG : Op1 P t (fun l => ∃ z, good z ∧ l = [f z])) (h : DataW.Trod enc P W 0 (fun _ => true) true t v d ps) :
    ∃ z, good z ∧ V (snapOf W hg) [] (f z) v := by
  obtain ⟨fuel, h⟩ := h
  obtain ⟨l, ⟨z, hz, rfl⟩, h2⟩ := hG _ _ _ hg _ _ _ _ _ _ h
  rw [hcell] at h2
  obtain ⟨c, e, h3⟩ := VL.single_inv h2
  simp at e
  subst e
  exact ⟨z, hz, h3⟩
theorem cells_int {base : Nat} {P : Program} {W : World} {t : TypeId} {k : IntKind} {v : Value} (ht : P.underlying t = some (.int k)) (hv : Value.okWide P W .any base t v) : v.cells = #[v] := by
  obtain ⟨n, rfl⟩ := WideShapes.okWide_int ht hv; rfl
theorem cells_slice {base : Nat} {P : Program} {W : World} {t e : TypeId} {v : Value} (ht : P.underlying t = some (.slice e)) (hv : Value.okWide P W .any base t v) : v.cells = #[v] := by
  obtain ⟨a, n, c, rfl⟩ := WideShapes.okWide_slice ht hv; rfl

theorem cells_float {base : Nat} {P : Program} {W : World} {t : TypeId} {k : FloatKind} {v : Value} (ht : P.underlying t = some (.float k)) (hv : Value.okWide P W .any base t v) : v.cells = #[v] := by
  simp only [Value.okWide, ht, Cell.okWide] at hv
  cases v <;> first | rfl | simp_all [Cell.ok]
theorem cells_bool {base : Nat} {P : Program} {W : World} {t : TypeId} {v : Value} (ht : P.underlying t = some .bool) (hv : Value.okWide P W .any base t v) : v.cells = #[v] := by
  obtain ⟨n, rfl⟩ := WideShapes.okWide_bool ht hv; rfl
theorem cells_string {base : Nat} {P : Program} {W : World} {t : TypeId} {v : Value} (ht : P.underlying t = some .string) (hv : Value.okWide P W .any base t v) : v.cells = #[v] := by
  obtain ⟨n, rfl⟩ := WideShapes.okWide_string ht hv; rfl
/-- The arguments read behind the call as they did. -/
theorem trodAll_stays {H : Type} {enc : TypeId × Value → H} {P : Program} (hl : laidOutB P = true) {W W' : World} (hb : Below W.heap.size W W') : ∀ {ts : List TypeId} {vs : List Value} {ds : List (DataW H)} {ps : List MemPlace}, (∀ t ∈ ts, P.readableRec t = true ∧ t < P.types.size) →
    DataW.TrodAll enc P W 0 (fun _ => true) true ts vs ds ps → (∀ x ∈ ps, x.block < W.heap.size) → DataW.TrodAll enc P W' 0 (fun b => decide (b < W.heap.size)) true ts vs ds ps
  | [], [], [], _, _, h, _ => h
  | t :: ts, v :: vs, d :: ds, ps, hr, h, hlt => by
    obtain ⟨p, q, h1, h2, rfl⟩ := h
    exact ⟨p, q, Below.trod hl (hr t (by simp)).1 (hr t (by simp)).2 h1 hb (fun x hx => hlt x (by simp [hx])), trodAll_stays hl hb (fun t ht => hr t (by simp [ht])) h2 (fun x hx => hlt x (by simp [hx])), rfl⟩
  | [], [], _ :: _, _, _, h, _ => h.elim
  | [], _ :: _, _, _, _, h, _ => by cases h
  | _ :: _, [], _, _, _, h, _ => by cases h
  | _ :: _, _ :: _, [], _, _, h, _ => by cases h

/-- What a law's row asks behind the call. -/
theorem law_post {H : Type} {enc : TypeId × Value → H} {P : Program} {f : Func} {s : ChangeSpec} {W W' : World} {args : Array Value} {ds : List (DataW H)} {before : List MemPlace} {t : TypeId}
    (hW : DataW.Whole enc P f.params.toList s.vars false W args.toList ds [] before) (hs : s.vars = []) (hfn : s.fn H (ds ++ []) = { results := [.lit (.bool true)], args := ds }) (hr : f.resultTypes = #[t]) (ht : P.underlying t = some .bool)
    (hl : laidOutB P = true) (hp : ∀ t ∈ f.params.toList, P.readableRec t = true ∧ t < P.types.size) (hb : Below W.heap.size W W') : s.post enc P f false true false false W args (.bool true) W' := by
  have hlt : ∀ x ∈ before, x.block < W.heap.size := fun x hx => hW.lt x hx
  have hW2 := hW
  obtain ⟨p, q, hA, hV, rfl, _, _⟩ := hW
  rw [hs] at hV
  have hq : q = [] := hV
  subst hq
  refine ⟨ds, [], p ++ [], [], p, [], hW2, ?_, ?_, ?_, hb.frame _, fun h => by cases h⟩
  · rw [hfn, hr]
    exact trodAll_mk1 (shut_bool ht true)
  · rw [hfn]
    exact trodAll_stays hl hb hp hA (fun x hx => hlt x (by simp [hx]))
  · rw [hs, hfn]; rfl
end Go.AM

/- Plain facts on floats: how finite words are ordered, equality up to the sign, widening keeps the sign and finiteness. -/
namespace Go.AM
open Ieee

def rval (f : Format) (r : Nat) : Nat := if r < f.binade then r else (f.binade + r % f.binade) * 2 ^ (r / f.binade - 1)
theorem binade_pos (f : Format) : 0 < f.binade := Nat.two_pow_pos _
theorem rval_succ (f : Format) (r : Nat) : rval f r < rval f (r + 1) := by
  have hB := binade_pos f
  unfold rval
  by_cases h1 : r + 1 < f.binade
  · rw [if_pos (by omega), if_pos h1]; omega
  · by_cases h2 : r < f.binade
    · rw [if_pos h2, if_neg h1]
      have e : r + 1 = f.binade := by omega
      rw [e, Nat.mod_self, Nat.div_self hB]
      simp; omega
    · rw [if_neg h2, if_neg h1]
      have hq : 1 ≤ r / f.binade := (Nat.one_le_div_iff hB).2 (by omega)
      have hm := Nat.mod_lt r hB
      have hdm := Nat.div_add_mod r f.binade
      by_cases h3 : r % f.binade + 1 < f.binade
      · have e1 : (r + 1) / f.binade = r / f.binade := by
          apply Nat.div_eq_of_lt_le
          · rw [Nat.mul_comm]; omega
          · rw [Nat.add_mul, Nat.one_mul, Nat.mul_comm]; omega
        have e2 : (r + 1) % f.binade = r % f.binade + 1 := by
          have := Nat.div_add_mod (r + 1) f.binade
          rw [e1] at this; omega
        rw [e1, e2]
        exact Nat.mul_lt_mul_of_pos_right (by omega) (Nat.two_pow_pos _)
      · have e0 : r % f.binade = f.binade - 1 := by omega
        have e1 : (r + 1) / f.binade = r / f.binade + 1 := by
          apply Nat.div_eq_of_lt_le
          · rw [Nat.add_mul, Nat.one_mul, Nat.mul_comm]; omega
          · rw [Nat.add_mul, Nat.add_mul, Nat.one_mul, Nat.mul_comm]; omega
        have e2 : (r + 1) % f.binade = 0 := by
          have := Nat.div_add_mod (r + 1) f.binade
          rw [e1, Nat.mul_add] at this; omega
        rw [e1, e2, e0]
        obtain ⟨q, hq'⟩ : ∃ q, r / f.binade = q + 1 := ⟨r / f.binade - 1, by omega⟩
        rw [hq']
        simp only [Nat.add_sub_cancel, Nat.add_zero]
        rw [Nat.pow_succ, ← Nat.mul_assoc, Nat.mul_comm (f.binade * 2 ^ q) 2, ← Nat.mul_assoc]
        exact Nat.mul_lt_mul_of_pos_right (by omega) (Nat.two_pow_pos _)
theorem rval_mono (f : Format) {r r' : Nat} (h : r < r') : rval f r < rval f r' := by
  induction r' with
  | zero => omega
  | succ k ih =>
    rcases Nat.lt_or_ge r k with h' | h'
    · exact Nat.lt_trans (ih h') (rval_succ f k)
    · have : r = k := by omega
      subst this; exact rval_succ f r
theorem rval_inj (f : Format) {r r' : Nat} (h : rval f r = rval f r') : r = r' := by
  rcases Nat.lt_trichotomy r r' with h1 | h1 | h1
  · have := rval_mono f h1; omega
  · exact h1
  · have := rval_mono f h1; omega
theorem rval_le (f : Format) {r r' : Nat} (h : r ≤ r') : rval f r ≤ rval f r' := by
  rcases Nat.eq_or_lt_of_le h with h | h
  · rw [h]; exact Nat.le_refl _
  · exact Nat.le_of_lt (rval_mono f h)

/-- Sign and rung of a word. -/
def wneg (f : Format) (w : Nat) : Bool := w / f.signWeight % 2 == 1
def wrung (f : Format) (w : Nat) : Nat := w % f.signWeight
theorem read_fin (f : Format) {w : Nat} (h : wrung f w < f.infRung) : ∃ m a, f.read w = .number (wneg f w) m (f.leastPlace + (a : Nat)) ∧ m * 2 ^ a = rval f (wrung f w) := by
  unfold Format.read rval
  unfold wrung at h
  by_cases h1 : w % f.signWeight < f.binade
  · refine ⟨w % f.signWeight, 0, ?_, ?_⟩
    · simp [h1, wneg]
    · simp [wrung, h1]
  · refine ⟨f.binade + w % f.signWeight % f.binade, w % f.signWeight / f.binade - 1, ?_, ?_⟩
    · simp [h1, h, wneg]
    · simp [wrung, h1]
theorem read_inf (f : Format) (hf : f.binade ≤ f.infRung) {w : Nat} (h : wrung f w = f.infRung) : f.read w = .infinity (wneg f w) := by
  unfold Format.read
  unfold wrung at h
  have hB : ¬ f.infRung < f.binade := by omega
  simp [h, hB, wneg]
theorem read_nan (f : Format) (hf : f.binade ≤ f.infRung) {w : Nat} (h : f.infRung < wrung f w) : (f.read w).isNaN = true := by
  unfold Format.read
  unfold wrung at h
  have h1 : ¬ w % f.signWeight < f.binade := by omega
  have h2 : ¬ w % f.signWeight < f.infRung := by omega
  have h3 : ¬ w % f.signWeight = f.infRung := by omega
  simp [h1, h2, h3, Datum.isNaN]
/-- A word that is no NaN. -/
theorem not_nan (f : Format) (hf : f.binade ≤ f.infRung) {w : Nat} (h : (f.read w).isNaN = false) : wrung f w ≤ f.infRung := by
  rcases Nat.lt_or_ge f.infRung (wrung f w) with h1 | h1
  · rw [read_nan f hf h1] at h; cases h
  · exact h1

def sval (s : Bool) (v : Nat) : Int := if s then -(v : Int) else v
theorem compare_mul {x y k : Int} (hk : 0 < k) : compare (x * k) (y * k) = compare x y := by
  rcases Int.lt_trichotomy x y with h | h | h
  · rw [Int.compare_eq_lt.2 h, Int.compare_eq_lt.2 (Int.mul_lt_mul_of_pos_right h hk)]
  · rw [h]; simp
  · rw [Int.compare_eq_gt.2 h, Int.compare_eq_gt.2 (Int.mul_lt_mul_of_pos_right h hk)]
theorem order_num (s t : Bool) (m n a b : Nat) (lp : Int) : Datum.order (.number s m (lp + a)) (.number t n (lp + b)) = some (compare (sval s (m * 2 ^ a)) (sval t (n * 2 ^ b))) := by
  simp only [Datum.order]
  congr 1
  have e1 : (lp + (a : Int) - min (lp + (a : Int)) (lp + (b : Int))).toNat = a - min a b := by omega
  have e2 : (lp + (b : Int) - min (lp + (a : Int)) (lp + (b : Int))).toNat = b - min a b := by omega
  rw [e1, e2]
  have key : ∀ (s : Bool) (m a c : Nat), c ≤ a → sval s (m * 2 ^ a) = signed s m (a - c) * ((2 ^ c : Nat) : Int) := by
    intro s m a c hc
    have : m * 2 ^ a = (m <<< (a - c)) * 2 ^ c := by
      rw [Nat.shiftLeft_eq, Nat.mul_assoc, ← Nat.pow_add]
      congr 2; omega
    unfold sval signed
    rw [this]
    cases s <;> simp [Int.neg_mul]
  rw [key s m a (min a b) (Nat.min_le_left _ _), key t n b (min a b) (Nat.min_le_right _ _), compare_mul (by exact_mod_cast Nat.two_pow_pos _)]
theorem order_fin (f : Format) {x y : Nat} (hx : wrung f x < f.infRung) (hy : wrung f y < f.infRung) : f.order x y = some (compare (sval (wneg f x) (rval f (wrung f x))) (sval (wneg f y) (rval f (wrung f y)))) := by
  obtain ⟨m, a, h1, h2⟩ := read_fin f hx
  obtain ⟨n, b, h3, h4⟩ := read_fin f hy
  unfold Format.order
  rw [h1, h3, order_num, h2, h4]
theorem word_eta (f : Format) {w : Nat} (h : w < 2 * f.signWeight) : w = f.word (wneg f w) (wrung f w) := by
  have hpos : 0 < f.signWeight := Nat.two_pow_pos _
  have h1 : w / f.signWeight < 2 := (Nat.div_lt_iff_lt_mul hpos).2 h
  have h2 := Nat.div_add_mod w f.signWeight
  unfold Format.word wneg wrung
  have h3 : w / f.signWeight = 0 ∨ w / f.signWeight = 1 := by
    generalize w / f.signWeight = q at h1
    omega
  rcases h3 with h3 | h3
  · rw [h3] at h2 ⊢; simp; omega
  · rw [h3] at h2 ⊢; simp; omega
theorem width_weight (f : Format) : 2 ^ f.width = 2 * f.signWeight := by
  unfold Format.width Format.signWeight
  rw [Nat.add_assoc, Nat.pow_add]

theorem FOk.none (k : FloatKind) (h : ∃ b, b < 2 ^ k.format.width ∧ (k.format.read b).isNaN = true) : FOk k none := h
theorem FOk.some {k : FloatKind} {b : Nat} (h : FOk k (some b)) : b < 2 ^ k.format.width ∧ (k.format.read b).isNaN = false := by
  obtain ⟨_, rfl, h1, h2⟩ := h; exact ⟨h1, h2⟩
theorem fmt_ok (k : FloatKind) : k.format.binade ≤ k.format.infRung := by cases k <;> decide

theorem order_refl (f : Format) (hf : f.binade ≤ f.infRung) {x : Nat} (hx : (f.read x).isNaN = false) : f.order x x = some .eq := by
  rcases Nat.lt_or_ge (wrung f x) f.infRung with h | h
  · rw [order_fin f h h]; simp
  · have h1 : wrung f x = f.infRung := Nat.le_antisymm (not_nan f hf hx) h
    unfold Format.order
    rw [read_inf f hf h1]
    simp [Datum.order]
theorem feq_refl {k : FloatKind} {b : Nat} (h : FOk k (some b)) : feq k (some b) (some b) = true := by
  simp [feq, ford, order_refl k.format (fmt_ok k) h.some.2]
@[simp] theorem feq_none_l {k : FloatKind} {c : F} : feq k none c = false := rfl
@[simp] theorem feq_none_r {k : FloatKind} {c : F} : feq k c none = false := by cases c <;> rfl

theorem sval_inj {s : Bool} {v w : Nat} (h : sval s v = sval s w) : v = w := by
  unfold sval at h; cases s <;> simp at h <;> omega
/-- Equal numbers of the same sign are the same word. -/
theorem eq_of_order {f : Format} (hf : f.binade ≤ f.infRung) {x y : Nat} (hx : x < 2 ^ f.width) (hy : y < 2 ^ f.width) (nx : (f.read x).isNaN = false) (ny : (f.read y).isNaN = false) (ho : f.order x y = some .eq) (hs : wneg f x = wneg f y) : x = y := by
  rw [width_weight] at hx hy
  rw [word_eta f hx, word_eta f hy, hs]
  congr 1
  have kx := not_nan f hf nx
  have ky := not_nan f hf ny
  rcases Nat.lt_or_ge (wrung f x) f.infRung with h1 | h1
  · rcases Nat.lt_or_ge (wrung f y) f.infRung with h2 | h2
    · rw [order_fin f h1 h2, hs] at ho
      have := Int.compare_eq_eq.1 (Option.some.inj ho)
      exact rval_inj f (sval_inj this)
    · exfalso
      have e : wrung f y = f.infRung := Nat.le_antisymm ky h2
      obtain ⟨m, a, e1, _⟩ := read_fin f h1
      unfold Format.order at ho
      rw [read_inf f hf e, e1] at ho
      simp only [Datum.order, Option.some.injEq] at ho
      split at ho <;> cases ho
  · have e1 : wrung f x = f.infRung := Nat.le_antisymm kx h1
    rcases Nat.lt_or_ge (wrung f y) f.infRung with h2 | h2
    · exfalso
      obtain ⟨m, a, e2, _⟩ := read_fin f h2
      unfold Format.order at ho
      rw [read_inf f hf e1, e2] at ho
      simp only [Datum.order, Option.some.injEq] at ho
      split at ho <;> cases ho
    · rw [e1]; exact (Nat.le_antisymm ky h2).symm

/-! what is written keeps its sign -/
theorem nearest_word (f : Format) (s : Bool) (m : Nat) (p : Int) : ∃ r, r ≤ f.infRung ∧ f.nearest s m p = f.word s r := by
  unfold Format.nearest
  split
  · exact ⟨0, Nat.zero_le _, rfl⟩
  · exact ⟨_, Nat.min_le_right _ _, rfl⟩
theorem wneg_word (f : Format) (s : Bool) {r : Nat} (h : r < f.signWeight) : wneg f (f.word s r) = s ∧ wrung f (f.word s r) = r := by
  have hpos : 0 < f.signWeight := Nat.two_pow_pos _
  unfold wneg wrung Format.word
  cases s
  · simp [Nat.div_eq_of_lt h, Nat.mod_eq_of_lt h]
  · have e1 : (f.signWeight + r) / f.signWeight = 1 := by rw [Nat.add_div_left _ hpos, Nat.div_eq_of_lt h]
    simp [e1, Nat.add_mod_left, Nat.mod_eq_of_lt h]
theorem write_neg (f : Format) {d : Datum} (h : d.isNaN = false) : wneg f (f.write d) = d.neg ∧ wrung f (f.write d) ≤ f.infRung := by
  have hi := f.infRung_lt
  cases d with
  | number s m p =>
    obtain ⟨r, h1, h2⟩ := nearest_word f s m p
    show wneg f (f.nearest s m p) = s ∧ wrung f (f.nearest s m p) ≤ f.infRung
    rw [h2]
    obtain ⟨k1, k2⟩ := wneg_word f s (r := r) (by omega)
    exact ⟨k1, by omega⟩
  | infinity s =>
    obtain ⟨k1, k2⟩ := wneg_word f s (r := f.infRung) hi
    exact ⟨k1, Nat.le_of_eq k2⟩
  | nan _ _ => cases h
theorem read_neg_of (f : Format) {w : Nat} (hf : f.binade ≤ f.infRung) (h : (f.read w).isNaN = false) : (f.read w).neg = wneg f w := by
  rcases Nat.lt_or_ge (wrung f w) f.infRung with h1 | h1
  · obtain ⟨m, a, e, _⟩ := read_fin f h1; rw [e]; rfl
  · rw [read_inf f hf (Nat.le_antisymm (not_nan f hf h) h1)]; rfl
/-- Widened, a number keeps its sign. -/
theorem widen_neg {b : Nat} (h : FOk .f32 (some b)) : wneg Ieee.double (FloatKind.f64.encode (FloatKind.f32.decode b)) = wneg Ieee.single b := by
  rw [show FloatKind.f64.encode (FloatKind.f32.decode b) = Ieee.double.write (Ieee.single.read b) from rfl]
  rw [(write_neg Ieee.double (d := Ieee.single.read b) h.some.2).1]
  exact read_neg_of Ieee.single (fmt_ok .f32) h.some.2
theorem fwiden_ok {c : F} (h : FOk .f32 c) : FOk .f64 (fwiden c) := by
  cases c with
  | none => exact ⟨0x7FF8000000000000, by decide, by decide⟩
  | some b => exact ⟨_, encode_FR .f64 h.some.2⟩
end Go.AM

/- Plain facts on loops over lists. -/
namespace Go.AM

theorem at?_of {α : Type} {l : List α} {v : Int} {x : α} (h0 : 0 ≤ v) (h : l[v.toNat]? = some x) : at? l v = some x := by
  unfold at?; rw [if_pos h0]; exact h
theorem setAt?_of {α : Type} {l : List α} {v : Int} {x : α} (h0 : 0 ≤ v) (h : v.toNat < l.length) : setAt? l v x = some (l.set v.toNat x) := by
  unfold setAt?; rw [if_pos ⟨h0, h⟩]

/-- Two lists of one length, compared place by place. -/
theorem loop_eq {α : Type} [DecidableEq α] {l m : List α} (hlen : l.length = m.length) {step : Int → Option (LR Int Unit Bool)}
    (hstep : ∀ (v : Int) (x y : α), 0 ≤ v → v < l.length → l[v.toNat]? = some x → m[v.toNat]? = some y → step v = if x = y then some (.next (v + 1)) else some (.ret false)) (hend : step l.length = some (.out ())) :
    loopM step 0 = some (if l = m then .inl () else .inr false) := by
  have key : ∀ (k i : Nat), k + i = l.length → loopM step (i : Int) = some (if l.drop i = m.drop i then .inl () else .inr false) := by
    intro k
    induction k with
    | zero =>
      intro i hi
      have : i = l.length := by omega
      subst this
      rw [loopM_out hend, List.drop_length, hlen, List.drop_length, if_pos rfl]
    | succ k ih =>
      intro i hi
      have hl : i < l.length := by omega
      have hm : i < m.length := by omega
      have hs := hstep i l[i] m[i] (by omega) (by omega) (by simp [hl]) (by simp [hm])
      rw [List.drop_eq_getElem_cons hl, List.drop_eq_getElem_cons hm]
      by_cases e : l[i] = m[i]
      · rw [if_pos e] at hs
        rw [loopM_next hs, show ((i : Int) + 1) = ((i + 1 : Nat) : Int) by omega, ih (i + 1) (by omega), e]
        simp only [List.cons.injEq, true_and]
      · rw [if_neg e] at hs
        rw [loopM_ret hs, if_neg (fun h => e (List.cons.inj h).1)]
  have := key l.length 0 (by omega)
  simpa using this
/-- A list whose every element passes. -/
theorem loop_all {α : Type} {l : List α} {p : α → Bool} {step : Int → Option (LR Int Unit Bool)} (b : Bool)
    (hstep : ∀ (v : Int) (x : α), 0 ≤ v → v < l.length → l[v.toNat]? = some x → step v = if p x then some (.next (v + 1)) else some (.ret b)) (hend : step l.length = some (.out ())) :
    loopM step 0 = some (if l.all p then .inl () else .inr b) := by
  have key : ∀ (k i : Nat), k + i = l.length → loopM step (i : Int) = some (if (l.drop i).all p then .inl () else .inr b) := by
    intro k
    induction k with
    | zero =>
      intro i hi
      have : i = l.length := by omega
      subst this
      rw [loopM_out hend, List.drop_length]; simp
    | succ k ih =>
      intro i hi
      have hl : i < l.length := by omega
      have hs := hstep i l[i] (by omega) (by omega) (by simp [hl])
      rw [List.drop_eq_getElem_cons hl, List.all_cons]
      by_cases e : p l[i] = true
      · rw [if_pos e] at hs
        rw [loopM_next hs, show ((i : Int) + 1) = ((i + 1 : Nat) : Int) by omega, ih (i + 1) (by omega), e, Bool.true_and]
      · rw [if_neg e] at hs
        simp only [Bool.not_eq_true] at e
        rw [loopM_ret hs, e]; simp
  have := key l.length 0 (by omega)
  simpa using this
/-- A list copied place by place. -/
theorem loop_copy {α ρ : Type} {a : List α} {step : List α × Int → Option (LR (List α × Int) (List α) ρ)}
    (hstep : ∀ (L : List α) (v : Int) (x : α), 0 ≤ v → v < a.length → a[v.toNat]? = some x → L.length = a.length → step (L, v) = some (.next (L.set v.toNat x, v + 1))) (hend : ∀ L : List α, L.length = a.length → step (L, a.length) = some (.out L)) (z : List α) (hz : z.length = a.length) :
    loopM step (z, 0) = some (.inl a) := by
  have key : ∀ (k i : Nat) (L : List α), k + i = a.length → L.length = a.length → L.take i = a.take i → loopM step (L, (i : Int)) = some (.inl a) := by
    intro k
    induction k with
    | zero =>
      intro i L hi hL ht
      have : i = a.length := by omega
      subst this
      rw [List.take_length, ← hL, List.take_length] at ht
      subst ht
      exact loopM_out (hend L hL)
    | succ k ih =>
      intro i L hi hL ht
      have hl : i < a.length := by omega
      rw [loopM_next (hstep L i a[i] (by omega) (by omega) (by simp [hl]) hL), show ((i : Int) + 1) = ((i + 1 : Nat) : Int) by omega]
      refine ih (i + 1) _ (by omega) (by simpa using hL) ?_
      have e : (i : Int).toNat = i := by omega
      rw [e, List.take_succ_eq_append_getElem (by simp; omega), List.take_succ_eq_append_getElem hl, List.take_set_of_le (Nat.le_refl _), ht]
      simp
  exact key a.length 0 z (by omega) hz (by simp)
theorem wrap_succ {v : Int} {n : Nat} (h0 : 0 ≤ v) (h : v < n) (hn : n ≤ 9223372036854775807) : IntKind.i64.wrap (v + 1) = v + 1 := wrap_i64 (by omega) (by omega)
end Go.AM

/- Plain facts on floats: finite numbers. -/
namespace Go.AM
open Ieee

/-- A finite number of single precision. -/
def fin32 (c : F) : Bool := match c with
  | none => false
  | some b => !(single.read b).isInfinity
theorem read_cases {f : Format} (hf : f.binade ≤ f.infRung) {b : Nat} (h : (f.read b).isNaN = false) : (wrung f b < f.infRung ∧ (f.read b).isInfinity = false) ∨ (wrung f b = f.infRung ∧ f.read b = .infinity (wneg f b)) := by
  rcases Nat.lt_or_ge (wrung f b) f.infRung with h1 | h1
  · obtain ⟨m, a, e, _⟩ := read_fin f h1
    exact .inl ⟨h1, by rw [e]; rfl⟩
  · have := Nat.le_antisymm (not_nan f hf h) h1
    exact .inr ⟨this, read_inf f hf this⟩
theorem sub_self {c : F} (h : FOk .f32 c) : feq .f32 (fop .sub .f32 c c) (some 0) = fin32 c := by
  cases c with
  | none => rfl
  | some b =>
    have hn := h.some.2
    have e : fop .sub .f32 (some b) (some b) = single.sub b b := rfl
    rw [e]
    rcases read_cases (f := single) (fmt_ok .f32) hn with ⟨h1, h2⟩ | ⟨h1, h2⟩
    · obtain ⟨m, a, e1, _⟩ := read_fin single h1
      have : single.sub b b = some 0 := by
        unfold Format.sub
        rw [e1]
        have ht : signed (wneg single b) m 0 + signed (!wneg single b) m 0 = 0 := by
          unfold signed; cases wneg single b <;> simp <;> omega
        simp only [Datum.opposite, Datum.sum, Int.min_self, Int.sub_self, Int.toNat_zero, ht, if_true]
        simp [Format.write, Format.nearest, Format.word]
      rw [this]
      have h3 : fin32 (some b) = true := by simp [fin32, h2]
      rw [h3]; decide
    · have : single.sub b b = none := by
        unfold Format.sub
        rw [h2]
        cases wneg single b <;> rfl
      rw [this]
      have h3 : fin32 (some b) = false := by simp [fin32, h2, Datum.isInfinity]
      rw [h3]; rfl
theorem fabs_max {c : F} (h : FOk .f32 c) (hc : c ≠ none) : flt .f64 (some 9218868437227405311) (fabs (fwiden c)) = !fin32 c := by
  cases c with
  | none => exact absurd rfl hc
  | some b =>
    have hn := h.some.2
    have hfab : fabs (fwiden (some b)) = some (double.write (single.read b) % 9223372036854775808) := rfl
    rw [hfab]
    have hmx : wrung double 9218868437227405311 < double.infRung := by decide
    have hmw : wrung double 9218868437227405311 = 9218868437227405311 := by decide
    have hnm : wneg double 9218868437227405311 = false := by decide
    rcases read_cases (f := single) (fmt_ok .f32) hn with ⟨h1, h2⟩ | ⟨h1, h2⟩
    · obtain ⟨m, a, e1, _⟩ := read_fin single h1
      have h3 : fin32 (some b) = true := by simp [fin32, h2]
      rw [h3]
      have hw := write_neg double (d := single.read b) hn
      have hfi : (double.read (double.write (single.read b))).isInfinity = false := by
        rw [e1]; exact widen_finite (b := b) e1
      have hlt : wrung double (double.write (single.read b)) < double.infRung := by
        rcases Nat.lt_or_ge (wrung double (double.write (single.read b))) double.infRung with k | k
        · exact k
        · rw [read_inf double (fmt_ok .f64) (Nat.le_antisymm hw.2 k)] at hfi; cases hfi
      have hr : double.write (single.read b) % 9223372036854775808 = wrung double (double.write (single.read b)) := rfl
      rw [hr]
      generalize wrung double (double.write (single.read b)) = r at hlt
      have hrs : r < 9223372036854775808 := Nat.lt_trans hlt (by decide)
      have hwr : wrung double r = r := Nat.mod_eq_of_lt hrs
      have hwn : wneg double r = false := by
        unfold wneg
        rw [show double.signWeight = 9223372036854775808 from by decide, Nat.div_eq_of_lt hrs]; rfl
      have ho : double.order 9218868437227405311 r = some (compare (sval false (rval double 9218868437227405311)) (sval false (rval double r))) := by
        rw [order_fin double hmx (by rw [hwr]; exact hlt), hnm, hmw, hwr, hwn]
      have hle : rval double r ≤ rval double 9218868437227405311 := rval_le double (by
        have : double.infRung = 9218868437227405312 := by decide
        omega)
      have hcmp : compare (sval false (rval double 9218868437227405311)) (sval false (rval double r)) ≠ .lt := by
        intro hc'
        have := Int.compare_eq_lt.1 hc'
        simp [sval] at this
        omega
      have : flt .f64 (some 9218868437227405311) (some r) = (double.order 9218868437227405311 r == some .lt) := rfl
      rw [this, ho]
      simp [hcmp]
    · have h3 : fin32 (some b) = false := by simp [fin32, h2, Datum.isInfinity]
      rw [h3, h2]
      cases wneg single b <;> decide
/-- The first element that fails is looked for. -/
theorem loop_find {α : Type} {l : List α} {p : α → Bool} {step : Int → Option (LR Int Unit Int)}
    (hstep : ∀ (v : Int) (x : α), 0 ≤ v → v < l.length → l[v.toNat]? = some x → step v = if p x then some (.ret v) else some (.next (v + 1))) (hend : step l.length = some (.out ())) :
    ∃ r : Int, loopM step 0 = some (if l.any p then .inr r else .inl ()) ∧ 0 ≤ r := by
  have key : ∀ (k i : Nat), k + i = l.length → ∃ r : Int, loopM step (i : Int) = some (if (l.drop i).any p then .inr r else .inl ()) ∧ 0 ≤ r := by
    intro k
    induction k with
    | zero =>
      intro i hi
      have : i = l.length := by omega
      subst this
      refine ⟨0, ?_, Int.le_refl _⟩
      rw [loopM_out hend, List.drop_length]; simp
    | succ k ih =>
      intro i hi
      have hl : i < l.length := by omega
      have hs := hstep i l[i] (by omega) (by omega) (by simp [hl])
      rw [List.drop_eq_getElem_cons hl, List.any_cons]
      by_cases e : p l[i] = true
      · rw [if_pos e] at hs
        exact ⟨i, by rw [loopM_ret hs, e]; simp, by omega⟩
      · rw [if_neg e] at hs
        simp only [Bool.not_eq_true] at e
        obtain ⟨r, h1, h2⟩ := ih (i + 1) (by omega)
        exact ⟨r, by rw [loopM_next hs, show ((i : Int) + 1) = ((i + 1 : Nat) : Int) by omega, h1, e, Bool.false_or], h2⟩
  have := key l.length 0 (by omega)
  simpa using this
end Go.AM

/- Plain facts: counting loops, matrices as lists of rows, floats in range. -/
namespace Go.AM

/-! counting loops -/
def run {σ : Type} (f : Nat → σ → σ) : Nat → Nat → σ → σ
  | _, 0, s => s
  | i, m + 1, s => run f (i + 1) m (f i s)
def runE {σ ρ : Type} (f : Nat → σ → σ ⊕ ρ) : Nat → Nat → σ → σ ⊕ ρ
  | _, 0, s => .inl s
  | i, m + 1, s => match f i s with
    | .inl s' => runE f (i + 1) m s'
    | .inr r => .inr r
theorem run_zero {σ : Type} (f : Nat → σ → σ) (i : Nat) (s : σ) : run f i 0 s = s := rfl
theorem run_succ {σ : Type} (f : Nat → σ → σ) (i m : Nat) (s : σ) : run f i (m + 1) s = run f (i + 1) m (f i s) := rfl
theorem run_last {σ : Type} (f : Nat → σ → σ) : ∀ (m i : Nat) (s : σ), run f i (m + 1) s = f (i + m) (run f i m s)
  | 0, i, s => by simp [run]
  | m + 1, i, s => by
    rw [run_succ, run_last f m (i + 1) (f i s), run_succ, show i + 1 + m = i + (m + 1) by omega]
theorem run_inv {σ : Type} {f : Nat → σ → σ} (Inv : Nat → σ → Prop) : ∀ (m i : Nat) (s : σ), Inv i s → (∀ j s, i ≤ j → j < i + m → Inv j s → Inv (j + 1) (f j s)) → Inv (i + m) (run f i m s)
  | 0, i, s, h, _ => h
  | m + 1, i, s, h, hs => by
    rw [show i + (m + 1) = i + 1 + m by omega]
    exact run_inv Inv m (i + 1) (f i s) (hs i s (Nat.le_refl _) (by omega) h) fun j s h1 h2 h3 => hs j s (by omega) (by omega) h3
theorem run_congr {σ : Type} {f g : Nat → σ → σ} (Inv : Nat → σ → Prop) : ∀ (m i : Nat) (s : σ), Inv i s → (∀ j s, i ≤ j → j < i + m → Inv j s → f j s = g j s ∧ Inv (j + 1) (f j s)) → run f i m s = run g i m s
  | 0, i, s, _, _ => rfl
  | m + 1, i, s, h, hs => by
    obtain ⟨h1, h2⟩ := hs i s (Nat.le_refl _) (by omega) h
    rw [run_succ, run_succ, ← h1]
    exact run_congr Inv m (i + 1) (f i s) h2 fun j s a b c => hs j s (by omega) (by omega) c
theorem run_keep {σ α : Type} {f : Nat → σ → σ} (p : σ → α) : ∀ (m i : Nat) (s : σ), (∀ j s, i ≤ j → j < i + m → p (f j s) = p s) → p (run f i m s) = p s
  | 0, _, _, _ => rfl
  | m + 1, i, s, h => by
    rw [run_succ, run_keep p m (i + 1) (f i s) fun j s a b => h j s (by omega) (by omega)]
    exact h i s (Nat.le_refl _) (by omega)

/-- A loop that counts up; each round goes on. -/
theorem loop_run {S σ ε ρ : Type} {step : S → Option (LR S ε ρ)} (mk : Nat → σ → S) (f : Nat → σ → σ) (out : σ → ε) (Inv : Nat → σ → Prop) {lo n : Nat} (hlo : lo ≤ n) {s0 : σ} (h0 : Inv lo s0)
    (hs : ∀ i s, lo ≤ i → i < n → Inv i s → step (mk i s) = some (.next (mk (i + 1) (f i s))) ∧ Inv (i + 1) (f i s)) (he : ∀ s, Inv n s → step (mk n s) = some (.out (out s))) :
    loopM step (mk lo s0) = some (.inl (out (run f lo (n - lo) s0))) ∧ Inv n (run f lo (n - lo) s0) := by
  have key : ∀ (m i : Nat) (s : σ), i + m = n → lo ≤ i → Inv i s → loopM step (mk i s) = some (.inl (out (run f i m s))) ∧ Inv n (run f i m s) := by
    intro m
    induction m with
    | zero =>
      intro i s hi _ hI
      have : i = n := by omega
      subst this
      exact ⟨loopM_out (he s hI), hI⟩
    | succ m ih =>
      intro i s hi hl hI
      obtain ⟨h1, h2⟩ := hs i s hl (by omega) hI
      rw [loopM_next h1, run_succ]
      exact ih (i + 1) (f i s) (by omega) (by omega) h2
  exact key (n - lo) lo s0 (by omega) (Nat.le_refl _) h0
/-- A loop that counts up; a round may return. -/
theorem loop_runE {S σ ε ρ : Type} {step : S → Option (LR S ε ρ)} (mk : Nat → σ → S) (f : Nat → σ → σ ⊕ ρ) (out : σ → ε) (Inv : Nat → σ → Prop) {lo n : Nat} (hlo : lo ≤ n) {s0 : σ} (h0 : Inv lo s0)
    (hs : ∀ i s, lo ≤ i → i < n → Inv i s → (∃ s', f i s = .inl s' ∧ step (mk i s) = some (.next (mk (i + 1) s')) ∧ Inv (i + 1) s') ∨ (∃ r, f i s = .inr r ∧ step (mk i s) = some (.ret r))) (he : ∀ s, Inv n s → step (mk n s) = some (.out (out s))) :
    (∃ s', runE f lo (n - lo) s0 = .inl s' ∧ loopM step (mk lo s0) = some (.inl (out s')) ∧ Inv n s') ∨ (∃ r, runE f lo (n - lo) s0 = .inr r ∧ loopM step (mk lo s0) = some (.inr r)) := by
  have key : ∀ (m i : Nat) (s : σ), i + m = n → lo ≤ i → Inv i s → (∃ s', runE f i m s = .inl s' ∧ loopM step (mk i s) = some (.inl (out s')) ∧ Inv n s') ∨ (∃ r, runE f i m s = .inr r ∧ loopM step (mk i s) = some (.inr r)) := by
    intro m
    induction m with
    | zero =>
      intro i s hi _ hI
      have : i = n := by omega
      subst this
      exact .inl ⟨s, rfl, loopM_out (he s hI), hI⟩
    | succ m ih =>
      intro i s hi hl hI
      rcases hs i s hl (by omega) hI with ⟨s', h1, h2, h3⟩ | ⟨r, h1, h2⟩
      · rw [loopM_next h2]
        simp only [runE, h1]
        exact ih (i + 1) s' (by omega) (by omega) h3
      · exact .inr ⟨r, by simp only [runE, h1], loopM_ret h2⟩
  exact key (n - lo) lo s0 (by omega) (Nat.le_refl _) h0

/-! matrices: C numbers a row -/
abbrev gm {α : Type} (d : α) (L : List α) (C i k : Nat) : α := L.getD (i * C + k) d
abbrev sm {α : Type} (L : List α) (C i k : Nat) (x : α) : List α := L.set (i * C + k) x
structure Mat {α : Type} (A C : Nat) (L : List α) : Prop where
  A1 : A ≤ 12
  C1 : C ≤ 12
  len : L.length = A * C
theorem Mat.set {α : Type} {A C : Nat} {L : List α} (h : Mat A C L) (i k : Nat) (x : α) : Mat A C (sm L C i k x) := ⟨h.A1, h.C1, by simp [h.len]⟩
theorem idx_lt {A C i k : Nat} (hi : i < A) (hk : k < C) : i * C + k < A * C := by
  have h1 : (i + 1) * C ≤ A * C := Nat.mul_le_mul_right C hi
  rw [Nat.add_mul, Nat.one_mul] at h1
  omega
theorem Mat.lt {α : Type} {A C : Nat} {L : List α} (h : Mat A C L) {i k : Nat} (hi : i < A) (hk : k < C) : i * C + k < L.length := by rw [h.len]; exact idx_lt hi hk
theorem Mat.small {α : Type} {A C : Nat} {L : List α} (h : Mat A C L) : L.length ≤ 144 := by rw [h.len]; exact Nat.mul_le_mul h.A1 h.C1
theorem Mat.le {α : Type} {A C : Nat} {L : List α} (h : Mat A C L) : L.length ≤ 1048576 := by have := h.small; omega
theorem idx_eq {C i k j l : Nat} (hk : k < C) (hl : l < C) (h : i * C + k = j * C + l) : i = j ∧ k = l := by
  have h1 : (i * C + k) / C = i := by rw [Nat.mul_comm, Nat.mul_add_div (by omega), Nat.div_eq_of_lt hk, Nat.add_zero]
  have h2 : (j * C + l) / C = j := by rw [Nat.mul_comm, Nat.mul_add_div (by omega), Nat.div_eq_of_lt hl, Nat.add_zero]
  have e : i = j := by rw [← h1, ← h2, h]
  subst e
  exact ⟨rfl, by omega⟩
theorem gm_set {α : Type} {d : α} {A C : Nat} {L : List α} (h : Mat A C L) {i k j l : Nat} {x : α} (hi : i < A) (hk : k < C) (hl : l < C) : gm d (sm L C i k x) C j l = if i = j ∧ k = l then x else gm d L C j l := by
  have h1 := h.lt hi hk
  simp only [gm, sm, List.getD, List.getElem?_set]
  by_cases e : i = j ∧ k = l
  · obtain ⟨rfl, rfl⟩ := e
    simp [h1]
  · rw [if_neg e, if_neg]
    intro e2
    exact e (idx_eq hk hl e2)
theorem wn {n : Nat} (h : n ≤ 9223372036854775807) : IntKind.i64.wrap (n : Int) = (n : Int) := wrap_i64 (by omega) (by omega)
theorem cast_mul_add (i C k : Nat) : (i : Int) * (C : Int) + (k : Int) = ((i * C + k : Nat) : Int) := by simp
theorem at?_n {α : Type} {L : List α} {i : Nat} (d : α) (h : i < L.length) : at? L (i : Int) = some (L.getD i d) := at?_of (by omega) (by simp [List.getD, h])
theorem setAt?_n {α : Type} {L : List α} {i : Nat} (x : α) (h : i < L.length) : setAt? L (i : Int) x = some (L.set i x) := by
  rw [setAt?_of (by omega) (by simpa using h)]; rfl
/-- The index of an entry, as the program computes it. -/
theorem idx_w {A C i k : Nat} (hA : A ≤ 12) (hC : C ≤ 12) (hi : i < A) (hk : k < C) : IntKind.i64.wrap ((i : Int) * (C : Int)) = ((i * C : Nat) : Int) ∧ IntKind.i64.wrap (((i * C : Nat) : Int) + (k : Int)) = ((i * C + k : Nat) : Int) := by
  have h1 := idx_lt hi hk
  have h2 : A * C ≤ 12 * 12 := Nat.mul_le_mul hA hC
  rw [← Int.natCast_mul, ← Int.natCast_add]
  exact ⟨wn (by omega), wn (by omega)⟩

/-! floats -/
theorem fop_ok {op : BinOp} (k : FloatKind) (a b : F) : FOk k (fop op k a b) ∨ fop op k a b = none := by
  cases h : fop op k a b with
  | none => exact .inr rfl
  | some r =>
    left
    cases a with
    | none => simp [fop] at h
    | some a =>
      cases b with
      | none => simp [fop] at h
      | some b => exact ⟨r, FR.of_bits (op := op) (x := a) (y := b) h⟩
end Go.AM
namespace Go.AM
/-- A loop that may stop early, beside one that does not: what makes it stop is still there at the end. -/
theorem runE_run {σ ρ : Type} {f : Nat → σ → σ ⊕ ρ} {g : Nat → σ → σ} (Inv Bad : Nat → σ → Prop) (P : ρ → Prop) : ∀ (m i : Nat) (s : σ), Inv i s →
    (∀ j s, i ≤ j → j < i + m → Inv j s → (f j s = .inl (g j s) ∧ Inv (j + 1) (g j s)) ∨ (∃ r, f j s = .inr r ∧ P r ∧ Bad (j + 1) (g j s))) →
    (∀ j s, i ≤ j → j < i + m → Bad j s → Bad (j + 1) (g j s)) →
    (runE f i m s = .inl (run g i m s) ∧ Inv (i + m) (run g i m s)) ∨ (∃ r, runE f i m s = .inr r ∧ P r ∧ Bad (i + m) (run g i m s))
  | 0, i, s, h, _, _ => .inl ⟨rfl, h⟩
  | m + 1, i, s, h, hs, hb => by
    have e : i + (m + 1) = i + 1 + m := by omega
    rw [run_succ, e]
    rcases hs i s (Nat.le_refl _) (by omega) h with ⟨h1, h2⟩ | ⟨r, h1, h2, h3⟩
    · simp only [runE, h1]
      exact runE_run Inv Bad P m (i + 1) (g i s) h2 (fun j s a b c => hs j s (by omega) (by omega) c) fun j s a b c => hb j s (by omega) (by omega) c
    · refine .inr ⟨r, by simp only [runE, h1], h2, ?_⟩
      exact run_inv Bad m (i + 1) (g i s) h3 fun j s a b c => hb j s (by omega) (by omega) c
end Go.AM
namespace Go.AM
def endE {σ ε ρ : Type} (out : σ → ε) : σ ⊕ ρ → ε ⊕ ρ
  | .inl s => .inl (out s)
  | .inr r => .inr r
theorem loop_endE {S σ ε ρ : Type} {step : S → Option (LR S ε ρ)} (mk : Nat → σ → S) (f : Nat → σ → σ ⊕ ρ) (out : σ → ε) (Inv : Nat → σ → Prop) {lo n : Nat} (hlo : lo ≤ n) {s0 : σ} (h0 : Inv lo s0)
    (hs : ∀ i s, lo ≤ i → i < n → Inv i s → (∃ s', f i s = .inl s' ∧ step (mk i s) = some (.next (mk (i + 1) s')) ∧ Inv (i + 1) s') ∨ (∃ r, f i s = .inr r ∧ step (mk i s) = some (.ret r))) (he : ∀ s, Inv n s → step (mk n s) = some (.out (out s))) :
    loopM step (mk lo s0) = some (endE out (runE f lo (n - lo) s0)) ∧ ∀ s', runE f lo (n - lo) s0 = .inl s' → Inv n s' := by
  rcases loop_runE mk f out Inv hlo h0 hs he with ⟨s', h1, h2, h3⟩ | ⟨r, h1, h2⟩
  · exact ⟨by rw [h1, h2]; rfl, fun s'' e => by rw [h1] at e; cases e; exact h3⟩
  · exact ⟨by rw [h1, h2]; rfl, fun s'' e => by rw [h1] at e; cases e⟩
theorem runE_ret {σ ρ : Type} {f : Nat → σ → σ ⊕ ρ} {P : ρ → Prop} (h : ∀ i s r, f i s = .inr r → P r) : ∀ {m i : Nat} {s : σ} {r : ρ}, runE f i m s = .inr r → P r
  | 0, _, _, _, e => by cases e
  | m + 1, i, s, r, e => by
    simp only [runE] at e
    split at e
    · exact runE_ret h e
    · rename_i q hq; cases e; exact h _ _ _ hq
end Go.AM
namespace Go.AM
/-! counting loops that may go on, leave or return -/
def lrmap {σ S ε ρ : Type} (g : σ → S) : LR σ ε ρ → LR S ε ρ
  | .next s => .next (g s)
  | .out e => .out e
  | .ret r => .ret r
def runL {σ ε ρ : Type} (f : Nat → σ → LR σ ε ρ) (fin : σ → ε) : Nat → Nat → σ → ε ⊕ ρ
  | _, 0, s => .inl (fin s)
  | i, m + 1, s => match f i s with
    | .next s' => runL f fin (i + 1) m s'
    | .out e => .inl e
    | .ret r => .inr r
theorem loop_runL {S σ ε ρ : Type} {step : S → Option (LR S ε ρ)} (mk : Nat → σ → S) (f : Nat → σ → LR σ ε ρ) (fin : σ → ε) (Inv : Nat → σ → Prop) {lo n : Nat} (hlo : lo ≤ n) {s0 : σ} (h0 : Inv lo s0)
    (hs : ∀ i s, lo ≤ i → i < n → Inv i s → step (mk i s) = some (lrmap (mk (i + 1)) (f i s)) ∧ ∀ s', f i s = .next s' → Inv (i + 1) s') (he : ∀ s, Inv n s → step (mk n s) = some (.out (fin s))) :
    loopM step (mk lo s0) = some (runL f fin lo (n - lo) s0) := by
  have key : ∀ (m i : Nat) (s : σ), i + m = n → lo ≤ i → Inv i s → loopM step (mk i s) = some (runL f fin i m s) := by
    intro m
    induction m with
    | zero =>
      intro i s hi _ hI
      have : i = n := by omega
      subst this
      exact loopM_out (he s hI)
    | succ m ih =>
      intro i s hi hl hI
      obtain ⟨h1, h2⟩ := hs i s hl (by omega) hI
      cases e : f i s with
      | next s' =>
        rw [e] at h1
        rw [loopM_next h1]
        simp only [runL, e]
        exact ih (i + 1) s' (by omega) (by omega) (h2 s' e)
      | out x => rw [e] at h1; rw [loopM_out h1]; simp only [runL, e]
      | ret r => rw [e] at h1; rw [loopM_ret h1]; simp only [runL, e]
  exact key (n - lo) lo s0 (by omega) (Nat.le_refl _) h0
theorem runL_post {σ ε ρ : Type} {f : Nat → σ → LR σ ε ρ} {fin : σ → ε} (Inv : Nat → σ → Prop) (PE : ε → Prop) (PR : ρ → Prop) : ∀ (m i : Nat) (s : σ), Inv i s →
    (∀ j s, i ≤ j → j < i + m → Inv j s → (∀ s', f j s = .next s' → Inv (j + 1) s') ∧ (∀ e, f j s = .out e → PE e) ∧ (∀ r, f j s = .ret r → PR r)) → (∀ s, Inv (i + m) s → PE (fin s)) →
    (∃ e, runL f fin i m s = .inl e ∧ PE e) ∨ (∃ r, runL f fin i m s = .inr r ∧ PR r)
  | 0, i, s, h, _, hf => .inl ⟨fin s, rfl, hf s h⟩
  | m + 1, i, s, h, hs, hf => by
    obtain ⟨h1, h2, h3⟩ := hs i s (Nat.le_refl _) (by omega) h
    cases e : f i s with
    | next s' =>
      simp only [runL, e]
      exact runL_post Inv PE PR m (i + 1) s' (h1 s' e) (fun j s a b c => hs j s (by omega) (by omega) c) fun s hI => hf s (by rw [show i + (m + 1) = i + 1 + m by omega]; exact hI)
    | out x => exact .inl ⟨x, by simp only [runL, e], h2 x e⟩
    | ret r => exact .inr ⟨r, by simp only [runL, e], h3 r e⟩
end Go.AM
namespace Go.AM
theorem runE_congr {σ ρ : Type} {f g : Nat → σ → σ ⊕ ρ} (Inv : Nat → σ → Prop) : ∀ (m i : Nat) (s : σ), Inv i s → (∀ j s, i ≤ j → j < i + m → Inv j s → f j s = g j s ∧ ∀ s', f j s = .inl s' → Inv (j + 1) s') → runE f i m s = runE g i m s
  | 0, _, _, _, _ => rfl
  | m + 1, i, s, h, hs => by
    obtain ⟨h1, h2⟩ := hs i s (Nat.le_refl _) (by omega) h
    simp only [runE, ← h1]
    cases e : f i s with
    | inl s' => exact runE_congr Inv m (i + 1) s' (h2 s' e) fun j s a b c => hs j s (by omega) (by omega) c
    | inr r => rfl
theorem runE_inv {σ ρ : Type} {f : Nat → σ → σ ⊕ ρ} (Inv : Nat → σ → Prop) : ∀ (m i : Nat) (s : σ), Inv i s → (∀ j s s', i ≤ j → j < i + m → Inv j s → f j s = .inl s' → Inv (j + 1) s') → ∀ s', runE f i m s = .inl s' → Inv (i + m) s'
  | 0, i, s, h, _, s', e => by cases e; exact h
  | m + 1, i, s, h, hs, s', e => by
    simp only [runE] at e
    cases e1 : f i s with
    | inl s2 =>
      rw [e1] at e
      rw [show i + (m + 1) = i + 1 + m by omega]
      exact runE_inv Inv m (i + 1) s2 (hs i s s2 (Nat.le_refl _) (by omega) h e1) (fun j s s' a b c d => hs j s s' (by omega) (by omega) c d) s' e
    | inr r => rw [e1] at e; cases e
end Go.AM

/- Plain facts on floats: exact numbers are written as they are; absolute values. -/
namespace Go.AM
open Ieee

theorem fok_none (k : FloatKind) : FOk k none := ⟨_, nan_cut 0 0 0⟩
theorem fop_fok {op : BinOp} (k : FloatKind) (a b : F) : FOk k (fop op k a b) := by
  rcases fop_ok (op := op) k a b with h | h
  · exact h
  · rw [h]; exact fok_none k

theorem log2_mul_pow {x d : Nat} (hx : x ≠ 0) : (x * 2 ^ d).log2 = x.log2 + d := by
  have h0 : x * 2 ^ d ≠ 0 := Nat.mul_ne_zero hx (Nat.ne_of_gt (Nat.two_pow_pos d))
  rw [Nat.log2_eq_iff h0]
  have h1 := Nat.log2_self_le hx
  have h2 : x < 2 ^ (x.log2 + 1) := Nat.lt_log2_self
  constructor
  · rw [Nat.pow_add]; exact Nat.mul_le_mul_right _ h1
  · rw [show x.log2 + d + 1 = x.log2 + 1 + d by omega, Nat.pow_add]
    exact Nat.mul_lt_mul_of_pos_right h2 (Nat.two_pow_pos d)
theorem cut_mul (s : Bool) (x d : Nat) : Toward.even.cut s (x * 2 ^ d) d = x := by
  unfold Toward.cut
  have key : (x * 2 ^ d) / (1 <<< min d ((x * 2 ^ d).log2 + 2)) = x ∧ (x * 2 ^ d) % (1 <<< min d ((x * 2 ^ d).log2 + 2)) = 0 := by
    by_cases hx : x = 0
    · subst hx; simp
    · have : min d ((x * 2 ^ d).log2 + 2) = d := by rw [log2_mul_pow hx]; omega
      rw [this, Nat.one_shiftLeft]
      exact ⟨Nat.mul_div_cancel _ (Nat.two_pow_pos d), Nat.mul_mod_left _ _⟩
  dsimp only
  rw [key.1, key.2]
  have hg : 0 < 1 <<< min d ((x * 2 ^ d).log2 + 2) := by rw [Nat.one_shiftLeft]; exact Nat.two_pow_pos _
  simp only [Nat.mul_zero]
  have h1 : decide ((1 <<< min d ((x * 2 ^ d).log2 + 2)) < 0) = false := by simp
  have h2 : ((1 <<< min d ((x * 2 ^ d).log2 + 2)) == 0) = false := by simp
  rw [h1, h2]
  simp
theorem log2_lt_of {x n : Nat} (hx : x ≠ 0) (h : x < 2 ^ n) : x.log2 < n := (Nat.log2_lt hx).2 h

/-- What 'nearest' makes of a number that stands on a rung. -/
theorem nearest_exact (f : Format) (s : Bool) {m : Nat} {p : Int} {r b c : Nat} (hr : r ≤ f.infRung) (hp : p + (b : Int) = f.leastPlace + (c : Int)) (h : m * 2 ^ c = rval f r * 2 ^ b) : f.nearest s m p = f.word s r := by
  have hb : f.binade = 2 ^ f.fractionBits := rfl
  unfold Format.nearest
  split
  · rename_i hm
    subst hm
    rw [Nat.zero_mul] at h
    have : rval f r = 0 := by
      rcases Nat.mul_eq_zero.1 h.symm with h | h
      · exact h
      · exact absurd h (Nat.ne_of_gt (Nat.two_pow_pos b))
    have h0 : rval f 0 = 0 := by simp [rval, binade_pos]
    rw [rval_inj f (this.trans h0.symm)]
  · rename_i hm
    have hl : m.log2 + c = (rval f r).log2 + b := by
      have hr0 : rval f r ≠ 0 := by
        intro e
        rw [e, Nat.zero_mul] at h
        rcases Nat.mul_eq_zero.1 h with h | h
        · exact hm h
        · exact absurd h (Nat.ne_of_gt (Nat.two_pow_pos c))
      rw [← log2_mul_pow hm, ← log2_mul_pow hr0, h]
    simp only
    by_cases hsub : r < f.binade
    · have hv : rval f r = r := by simp [rval, hsub]
      rw [hv] at h hl
      have hr0 : r ≠ 0 := by
        intro e
        rw [e, Nat.zero_mul] at h
        rcases Nat.mul_eq_zero.1 h with h | h
        · exact hm h
        · exact absurd h (Nat.ne_of_gt (Nat.two_pow_pos c))
      have hlog := log2_lt_of hr0 (hb ▸ hsub)
      have hlast : max (p + (m.log2 : Int) - (f.fractionBits : Int)) f.leastPlace = f.leastPlace := by omega
      rw [hlast]
      have hcut : Toward.even.cut s (m <<< (p - f.leastPlace).toNat) (f.leastPlace - p).toNat = r := by
        rcases Nat.le_total b c with hbc | hbc
        · have e1 : (p - f.leastPlace).toNat = c - b := by omega
          have e2 : (f.leastPlace - p).toNat = 0 := by omega
          have e3 : m * 2 ^ (c - b) = r := by
            have : m * 2 ^ (c - b) * 2 ^ b = r * 2 ^ b := by rw [Nat.mul_assoc, ← Nat.pow_add, Nat.sub_add_cancel hbc]; exact h
            exact Nat.eq_of_mul_eq_mul_right (Nat.two_pow_pos b) this
          rw [e1, e2, Nat.shiftLeft_eq, e3]
          have := cut_mul s r 0
          simpa using this
        · have e1 : (p - f.leastPlace).toNat = 0 := by omega
          have e2 : (f.leastPlace - p).toNat = b - c := by omega
          have e3 : m = r * 2 ^ (b - c) := by
            have : m * 2 ^ c = r * 2 ^ (b - c) * 2 ^ c := by rw [Nat.mul_assoc, ← Nat.pow_add, Nat.sub_add_cancel hbc]; exact h
            exact Nat.eq_of_mul_eq_mul_right (Nat.two_pow_pos c) this
          rw [e1, e2, Nat.shiftLeft_zero, e3]
          exact cut_mul s r (b - c)
      rw [hcut]
      simp [Nat.min_eq_left hr]
    · have hv : rval f r = (f.binade + r % f.binade) * 2 ^ (r / f.binade - 1) := by simp [rval, hsub]
      have hbp := binade_pos f
      have he : 1 ≤ r / f.binade := (Nat.le_div_iff_mul_le hbp).2 (by omega)
      have hmod := Nat.mod_lt r hbp
      generalize hx : f.binade + r % f.binade = x at hv
      have hx0 : x ≠ 0 := by omega
      have hlogx : x.log2 = f.fractionBits := by
        rw [Nat.log2_eq_iff hx0, ← hb, Nat.pow_succ, ← hb]; omega
      have hvl : (rval f r).log2 = f.fractionBits + (r / f.binade - 1) := by rw [hv, log2_mul_pow hx0, hlogx]
      generalize hee : r / f.binade - 1 = e at hv hvl
      have hlast : max (p + (m.log2 : Int) - (f.fractionBits : Int)) f.leastPlace = f.leastPlace + (e : Int) := by omega
      rw [hlast]
      have hcut : Toward.even.cut s (m <<< (p - (f.leastPlace + (e : Int))).toNat) (f.leastPlace + (e : Int) - p).toNat = x := by
        rw [hv, Nat.mul_assoc, ← Nat.pow_add] at h
        rcases Nat.le_total (e + b) c with hbc | hbc
        · have e1 : (p - (f.leastPlace + (e : Int))).toNat = c - (e + b) := by omega
          have e2 : (f.leastPlace + (e : Int) - p).toNat = 0 := by omega
          have e3 : m * 2 ^ (c - (e + b)) = x := by
            have : m * 2 ^ (c - (e + b)) * 2 ^ (e + b) = x * 2 ^ (e + b) := by rw [Nat.mul_assoc, ← Nat.pow_add, Nat.sub_add_cancel hbc]; exact h
            exact Nat.eq_of_mul_eq_mul_right (Nat.two_pow_pos _) this
          rw [e1, e2, Nat.shiftLeft_eq, e3]
          have := cut_mul s x 0
          simpa using this
        · have e1 : (p - (f.leastPlace + (e : Int))).toNat = 0 := by omega
          have e2 : (f.leastPlace + (e : Int) - p).toNat = e + b - c := by omega
          have e3 : m = x * 2 ^ (e + b - c) := by
            have : m * 2 ^ c = x * 2 ^ (e + b - c) * 2 ^ c := by rw [Nat.mul_assoc, ← Nat.pow_add, Nat.sub_add_cancel hbc]; exact h
            exact Nat.eq_of_mul_eq_mul_right (Nat.two_pow_pos _) this
          rw [e1, e2, Nat.shiftLeft_zero, e3]
          exact cut_mul s x _
      rw [hcut]
      have e4 : (f.leastPlace + (e : Int) - f.leastPlace).toNat = e := by omega
      rw [e4]
      have e5 : e * f.binade + x = r := by
        rw [← hx, ← hee]
        have := Nat.div_add_mod r f.binade
        have h2 : (r / f.binade - 1) * f.binade + f.binade = r / f.binade * f.binade := by
          rw [← Nat.succ_mul]; congr 1; omega
        rw [Nat.mul_comm] at this
        omega
      rw [e5, Nat.min_eq_left hr]

/-! widening tells the same number -/
theorem readWord (f : Format) (s : Bool) {r : Nat} (hr : r < f.infRung) : f.read (f.word s r) = if r < f.binade then .number s r f.leastPlace else .number s (f.binade + r % f.binade) (f.leastPlace + ((r / f.binade - 1 : Nat) : Int)) := by
  have h1 := f.infRung_lt
  obtain ⟨k1, k2⟩ := wneg_word f s (r := r) (by omega)
  unfold wneg at k1
  unfold wrung at k2
  unfold Format.read
  simp only [k1, k2]
  split
  · rfl
  · first | rfl | rw [if_pos hr]
theorem single_num {b : Nat} {s : Bool} {m : Nat} {e : Int} (h : single.read b = .number s m e) : m < 2 ^ 24 ∧ -149 ≤ e ∧ e ≤ 104 := by
  have hs : single.signWeight = 2147483648 := rfl
  have hbn : single.binade = 8388608 := rfl
  have hi : single.infRung = 2139095040 := rfl
  have hl : single.leastPlace = -149 := rfl
  simp only [Format.read, hs, hbn, hi, hl] at h
  split at h
  · simp at h; omega
  · split at h
    · simp at h; omega
    · split at h <;> simp at h
/-- A single-precision number in double precision. -/
theorem widen_num {s : Bool} {m : Nat} {e : Int} (hm : m < 2 ^ 24) (h1 : -149 ≤ e) (h2 : e ≤ 104) (h0 : m ≠ 0) :
    ∃ R, double.nearest s m e = double.word s R ∧ R < double.infRung ∧ double.binade ≤ R ∧ ∀ t, double.read (double.word t R) = .number t (m * 2 ^ (52 - m.log2)) (e + (m.log2 : Int) - 52) := by
  have hlog : m.log2 < 24 := log2_lt_of h0 hm
  have hi : double.infRung = 9218868437227405312 := rfl
  have hbn : double.binade = 4503599627370496 := rfl
  have hl : double.leastPlace = -1074 := rfl
  have hf : double.fractionBits = 52 := rfl
  have hlo : 2 ^ 52 ≤ m * 2 ^ (52 - m.log2) := by
    have := Nat.mul_le_mul_right (2 ^ (52 - m.log2)) (Nat.log2_self_le h0)
    rw [← Nat.pow_add] at this
    rwa [show m.log2 + (52 - m.log2) = 52 by omega] at this
  have hhi : m * 2 ^ (52 - m.log2) < 2 ^ 53 := by
    have : m * 2 ^ (52 - m.log2) < 2 ^ (m.log2 + 1) * 2 ^ (52 - m.log2) := Nat.mul_lt_mul_of_pos_right Nat.lt_log2_self (Nat.two_pow_pos _)
    rw [← Nat.pow_add] at this
    rwa [show m.log2 + 1 + (52 - m.log2) = 53 by omega] at this
  generalize hx : m * 2 ^ (52 - m.log2) = x at hlo hhi
  have hA : ∃ A : Nat, (e + (m.log2 : Int) - 52 - -1074).toNat = A ∧ A ≤ 1149 ∧ (A : Int) = e + (m.log2 : Int) - 52 + 1074 := ⟨_, rfl, by omega, by omega⟩
  obtain ⟨A, hA1, hA2, hA3⟩ := hA
  have hR : A * 4503599627370496 + x < 9218868437227405312 := by
    have h4 : A * 4503599627370496 ≤ 1149 * 4503599627370496 := Nat.mul_le_mul_right _ hA2
    omega
  refine ⟨A * 4503599627370496 + x, ?_, by rw [hi]; exact hR, by rw [hbn]; omega, fun t => ?_⟩
  · unfold Format.nearest
    rw [if_neg h0]
    simp only [hbn, hl, hf]
    have hlast : max (e + (m.log2 : Int) - ((52 : Nat) : Int)) (-1074) = e + (m.log2 : Int) - 52 := by omega
    rw [hlast]
    have e1 : (e - (e + (m.log2 : Int) - 52)).toNat = 52 - m.log2 := by omega
    have e2 : (e + (m.log2 : Int) - 52 - e).toNat = 0 := by omega
    rw [e1, e2, hA1, Nat.shiftLeft_eq, hx]
    have := cut_mul s x 0
    simp only [Nat.pow_zero, Nat.mul_one] at this
    rw [this, hi, Nat.min_eq_left (Nat.le_of_lt hR)]
  · rw [readWord double t (by rw [hi]; exact hR)]
    rw [if_neg (by rw [hbn]; omega)]
    simp only [hbn, hl]
    have d1 : (A * 4503599627370496 + x) / 4503599627370496 = A + 1 := by omega
    have d2 : 4503599627370496 + (A * 4503599627370496 + x) % 4503599627370496 = x := by omega
    rw [d1, d2]
    congr 1
    omega
def fabs32 (c : F) : F := c.map (· % 2147483648)
theorem word_false (f : Format) (r : Nat) : f.word false r = r := rfl
theorem abs_narrow {c : F} (h : FOk .f32 c) : fnarrow (fabs (fwiden c)) = some (fabs32 c) := by
  cases c with
  | none => rfl
  | some b =>
    have hn := h.some.2
    have hsg : wrung single b = b % 2147483648 := rfl
    have hfab : fabs (fwiden (some b)) = some (double.write (single.read b) % 9223372036854775808) := rfl
    rw [hfab]
    have key : ∀ {R : Nat} {d : Datum}, double.read R = d → (∀ s t, d ≠ .nan s t) → fnarrow (some R) = match d with
        | .nan _ _ => some none
        | .infinity s => some (some (single.write (.infinity s)))
        | .number s m e => if (single.read (single.write (.number s m e))).isInfinity then none else some (some (single.write (.number s m e))) := by
      intro R d hd _
      have : FloatKind.f64.decode R = d := hd
      simp only [fnarrow]
      rw [this]; rfl
    rcases read_cases (f := single) (fmt_ok .f32) hn with ⟨g1, g2⟩ | ⟨g1, g2⟩
    · obtain ⟨m, a, e1, e2⟩ := read_fin single g1
      have hfin : ∀ {M : Nat} {P : Int} {bb cc : Nat}, P + (bb : Int) = single.leastPlace + (cc : Int) → M * 2 ^ cc = rval single (wrung single b) * 2 ^ bb →
          (if (single.read (single.write (.number false M P))).isInfinity then none else some (some (single.write (.number false M P)))) = some (fabs32 (some b)) := by
        intro M P bb cc h1 h2
        have hne : single.write (.number false M P) = wrung single b := by
          show single.nearest false M P = _
          rw [nearest_exact single false (Nat.le_of_lt g1) h1 h2, word_false]
        rw [hne]
        have hwr : wrung single (wrung single b) = wrung single b := Nat.mod_eq_of_lt (Nat.mod_lt _ (by decide))
        obtain ⟨m2, a2, e3, _⟩ := read_fin single (w := wrung single b) (by rw [hwr]; exact g1)
        rw [e3]
        rfl
      by_cases h0 : m = 0
      · subst h0
        have e3 : double.write (single.read b) % 9223372036854775808 = 0 := by
          rw [e1]
          show double.nearest (wneg single b) 0 _ % _ = 0
          unfold Format.nearest
          rw [if_pos rfl]
          cases wneg single b <;> rfl
        rw [e3, key (d := .number false 0 (-1074)) rfl (by intro s t h; cases h)]
        rw [Nat.zero_mul] at e2
        obtain ⟨bb, hbb⟩ : ∃ bb : Nat, (-1074 : Int) + (bb : Int) = single.leastPlace + ((0 : Nat) : Int) := ⟨925, rfl⟩
        exact hfin (bb := bb) (cc := 0) hbb (by rw [← e2]; simp)
      · obtain ⟨k1, k2, k3⟩ := single_num e1
        obtain ⟨R, r1, r2, r3, r4⟩ := widen_num (s := wneg single b) k1 k2 k3 h0
        have e3 : double.write (single.read b) % 9223372036854775808 = R := by
          rw [e1]
          show double.nearest _ _ _ % _ = R
          rw [r1]
          have := (wneg_word double (wneg single b) (r := R) (Nat.lt_trans r2 (double.infRung_lt))).2
          exact this
        have hlog : m.log2 < 24 := log2_lt_of h0 k1
        have e4 := r4 false
        rw [word_false] at e4
        rw [e3, key e4 (by intro s t h; cases h)]
        refine hfin (bb := 52 - m.log2) (cc := a) (by omega) ?_
        rw [← e2, Nat.mul_assoc, Nat.mul_assoc, Nat.mul_comm (2 ^ (52 - m.log2))]
    · have e3 : double.write (single.read b) % 9223372036854775808 = double.infRung := by
        rw [g2]
        show double.word _ _ % _ = _
        exact (wneg_word double (wneg single b) (r := double.infRung) double.infRung_lt).2
      rw [e3, key (d := .infinity false) rfl (by intro s t h; cases h)]
      show some (some (single.word false single.infRung)) = some (some (b % 2147483648))
      rw [word_false, ← hsg, g1]
theorem fabs32_ok {c : F} (h : FOk .f32 c) : FOk .f32 (fabs32 c) := by
  cases c with
  | none => exact fok_none _
  | some b =>
    have hn := h.some.2
    have hwr : wrung single (b % 2147483648) = wrung single b := Nat.mod_mod _ _
    refine ⟨b % 2147483648, rfl, ?_, ?_⟩
    · have := Nat.mod_lt b (show 2147483648 > 0 by decide)
      show b % 2147483648 < 4294967296
      omega
    · show (single.read (b % 2147483648)).isNaN = false
      rcases read_cases (f := single) (fmt_ok .f32) hn with ⟨g1, g2⟩ | ⟨g1, g2⟩
      · obtain ⟨m2, a2, e3, _⟩ := read_fin single (w := b % 2147483648) (by rw [hwr]; exact g1)
        rw [e3]; rfl
      · rw [read_inf single (fmt_ok .f32) (w := b % 2147483648) (by rw [hwr]; exact g1)]; rfl

/-! a number turned about where it is not above zero -/
theorem rval_zero (f : Format) : rval f 0 = 0 := by simp [rval, binade_pos]
theorem lt_of_wneg {b : Nat} (h : b < 2 ^ FloatKind.f32.format.width) (hs : wneg single b = false) : b % 2147483648 = b := by
  replace h : b < 4294967296 := h
  unfold wneg at hs
  rw [show single.signWeight = 2147483648 from rfl] at hs
  have : b / 2147483648 % 2 ≠ 1 := by simpa using hs
  omega
theorem order_zero {b : Nat} (g : wrung single b < single.infRung) : single.order b 0 = some (compare (sval (wneg single b) (rval single (wrung single b))) 0) := by
  have h0 : wrung single 0 = 0 := rfl
  rw [order_fin single g (by rw [h0]; decide), h0, rval_zero]
  rfl
theorem zero_sub {b : Nat} (h : FOk .f32 (some b)) (hle : fle .f32 (some b) (some 0) = true) : fop .sub .f32 (some 0) (some b) = some (b % 2147483648) := by
  have hn := h.some.2
  have hsg : wrung single b = b % 2147483648 := rfl
  have e : fop .sub .f32 (some 0) (some b) = single.sub 0 b := rfl
  rw [e, ← hsg]
  unfold Format.sub
  have e0 : single.read 0 = .number false 0 (-149) := rfl
  rw [e0]
  have hle' : (single.order b 0 == some .lt || single.order b 0 == some .eq) = true := hle
  rcases read_cases (f := single) (fmt_ok .f32) hn with ⟨g1, g2⟩ | ⟨g1, g2⟩
  · obtain ⟨m, a, e1, e2⟩ := read_fin single g1
    rw [e1]
    have hl : single.leastPlace = -149 := rfl
    rw [hl]
    have hmin : min (-149 : Int) (-149 + (a : Int)) = -149 := by omega
    have ha : (-149 + (a : Int) - -149).toNat = a := by omega
    simp only [Datum.opposite, Datum.sum, hmin, Int.sub_self, Int.toNat_zero, ha, Option.map_some, Bool.false_and]
    have hz : signed false 0 0 = 0 := rfl
    rw [hz, Int.zero_add]
    have hsh : m <<< a = rval single (wrung single b) := by rw [Nat.shiftLeft_eq, e2]
    rw [order_zero g1] at hle'
    congr 1
    show single.nearest _ _ _ = _
    by_cases hv : rval single (wrung single b) = 0
    · have h0 : wrung single b = 0 := rval_inj single (by rw [hv, rval_zero])
      rw [h0]
      unfold signed
      rw [hsh, hv]
      cases wneg single b <;> rfl
    · cases hs : wneg single b with
      | false =>
        rw [hs] at hle'
        exfalso
        have : compare (sval false (rval single (wrung single b))) 0 = .gt := by
          rw [Int.compare_eq_gt]; simp only [sval]; simp <;> omega
        rw [this] at hle'
        cases hle'
      | true =>
        have : signed (!true) m a = (rval single (wrung single b) : Int) := by unfold signed; rw [hsh]; rfl
        rw [this]
        have hneg : decide ((rval single (wrung single b) : Int) < 0) = false := by simp
        rw [if_neg (by omega), hneg]
        rw [Int.natAbs_natCast, nearest_exact single false (r := wrung single b) (b := 0) (c := 0) (Nat.le_of_lt g1) (by rw [hl] <;> rfl) (by simp), word_false]
  · have hr : single.order b 0 = some (if wneg single b then .lt else .gt) := by
      unfold Format.order
      rw [g2, e0]; rfl
    rw [hr] at hle'
    rw [g2]
    cases hs : wneg single b with
    | false => rw [hs] at hle'; cases hle'
    | true =>
      simp only [Datum.opposite, Datum.sum, Option.map_some]
      rw [g1]; rfl
theorem fle_zero_pos {b : Nat} (h : FOk .f32 (some b)) (hle : fle .f32 (some b) (some 0) = false) : b % 2147483648 = b := by
  have hn := h.some.2
  refine lt_of_wneg h.some.1 ?_
  cases hs : wneg single b with
  | false => rfl
  | true =>
    exfalso
    have hle' : (single.order b 0 == some .lt || single.order b 0 == some .eq) = false := hle
    rcases read_cases (f := single) (fmt_ok .f32) hn with ⟨g1, g2⟩ | ⟨g1, g2⟩
    · rw [order_zero g1, hs] at hle'
      have : compare (sval true (rval single (wrung single b))) 0 = .lt ∨ compare (sval true (rval single (wrung single b))) 0 = .eq := by
        by_cases hv : rval single (wrung single b) = 0
        · right; rw [hv]; rfl
        · left; rw [Int.compare_eq_lt]; simp only [sval]; simp <;> omega
      rcases this with e | e <;> (rw [e] at hle'; exact absurd hle' (by decide))
    · have hr : single.order b 0 = some (if wneg single b then .lt else .gt) := by
        unfold Format.order
        rw [g2]; rfl
      rw [hr, hs] at hle'
      cases hle'
/-- 'x <= 0 ? 0 - x : x' is the absolute value. -/
theorem size_abs {c : F} (h : FOk .f32 c) : (if fle .f32 c (some 0) = true then fop .sub .f32 (some 0) c else c) = fabs32 c := by
  cases c with
  | none => rfl
  | some b =>
    split
    · rename_i hl; rw [zero_sub h hl]; rfl
    · rename_i hl
      show some b = some (b % 2147483648)
      rw [fle_zero_pos h (by simpa using hl)]
end Go.AM

/- Plain facts on floats: the root of a single-precision number fits single precision. -/
namespace Go.AM
open Ieee

theorem cut_le (s : Bool) (n d : Nat) : Toward.even.cut s n d ≤ n / (1 <<< min d (n.log2 + 2)) + 1 := by
  unfold Toward.cut
  dsimp only
  refine Nat.add_le_add_left ?_ _
  exact Bool.toNat_le _
/-- A number below a power of two is written below it. -/
theorem nearest_small (f : Format) (s : Bool) {m : Nat} {p : Int} {K : Nat} (hm : m ≠ 0) (h : p + (m.log2 : Int) ≤ f.leastPlace + (f.fractionBits : Int) + (K : Int)) (_ : (K + 2) * f.binade ≤ f.infRung) :
    ∃ r, f.nearest s m p = f.word s r ∧ r ≤ (K + 2) * f.binade := by
  have hb : f.binade = 2 ^ f.fractionBits := rfl
  unfold Format.nearest
  rw [if_neg hm]
  simp only
  generalize hl : max (p + (m.log2 : Int) - (f.fractionBits : Int)) f.leastPlace = last
  have h1 : last ≤ f.leastPlace + (K : Int) := by omega
  have h2 : p + (m.log2 : Int) - (f.fractionBits : Int) ≤ last := by omega
  have h3 : f.leastPlace ≤ last := by omega
  have hkept : Toward.even.cut s (m <<< (p - last).toNat) (last - p).toNat ≤ 2 * f.binade := by
    rw [hb]
    rcases Int.le_total last p with hle | hle
    · have e1 : (last - p).toNat = 0 := by omega
      rw [e1, Nat.shiftLeft_eq]
      have hc := cut_mul s (m * 2 ^ (p - last).toNat) 0
      rw [Nat.pow_zero, Nat.mul_one] at hc
      rw [hc]
      have hlt : m < 2 ^ (m.log2 + 1) := Nat.lt_log2_self
      have : m * 2 ^ (p - last).toNat < 2 ^ (m.log2 + 1) * 2 ^ (p - last).toNat := Nat.mul_lt_mul_of_pos_right hlt (Nat.two_pow_pos _)
      rw [← Nat.pow_add] at this
      have h4 : 2 ^ (m.log2 + 1 + (p - last).toNat) ≤ 2 ^ (f.fractionBits + 1) := Nat.pow_le_pow_right (by decide) (by omega)
      rw [Nat.pow_succ] at h4
      omega
    · have e1 : (p - last).toNat = 0 := by omega
      rw [e1, Nat.shiftLeft_zero]
      have hc := cut_le s m (last - p).toNat
      refine Nat.le_trans hc ?_
      rw [Nat.one_shiftLeft]
      have hlt : m < 2 ^ (m.log2 + 1) := Nat.lt_log2_self
      have hpos : 0 < 2 ^ f.fractionBits := Nat.two_pow_pos _
      rcases Nat.le_total (last - p).toNat (m.log2 + 2) with hd | hd
      · rw [Nat.min_eq_left hd]
        have : m / 2 ^ (last - p).toNat < 2 ^ (f.fractionBits + 1) := by
          rw [Nat.div_lt_iff_lt_mul (Nat.two_pow_pos _), ← Nat.pow_add]
          exact Nat.lt_of_lt_of_le hlt (Nat.pow_le_pow_right (by decide) (by omega))
        rw [Nat.pow_succ] at this
        omega
      · rw [Nat.min_eq_right hd]
        have : m / 2 ^ (m.log2 + 2) = 0 := Nat.div_eq_of_lt (Nat.lt_trans hlt (Nat.pow_lt_pow_right (by decide) (by omega)))
        rw [this]; omega
  have hA : (last - f.leastPlace).toNat ≤ K := by omega
  have hR : (last - f.leastPlace).toNat * f.binade + Toward.even.cut s (m <<< (p - last).toNat) (last - p).toNat ≤ (K + 2) * f.binade := by
    rw [Nat.add_mul]
    exact Nat.add_le_add (Nat.mul_le_mul_right _ hA) hkept
  exact ⟨_, rfl, Nat.le_trans (Nat.min_le_left _ _) hR⟩
theorem rootFrom_lt (n : Nat) : ∀ (t r : Nat), Datum.rootFrom n t r < r + 2 ^ t
  | 0, r => by simp [Datum.rootFrom]
  | t + 1, r => by
    unfold Datum.rootFrom
    simp only
    rw [Nat.one_shiftLeft]
    have hp : 2 ^ (t + 1) = 2 ^ t + 2 ^ t := by rw [Nat.pow_succ]; omega
    split
    · have := rootFrom_lt n t (r + 2 ^ t); omega
    · have := rootFrom_lt n t r; have := Nat.two_pow_pos t; omega
theorem narrow_num {c m : Nat} {e : Int} (s1 : double.read c = .number false m e) (s2 : m ≠ 0 → e + (m.log2 : Int) ≤ 64) : ∃ z, fnarrow (some c) = some z := by
  have hfn : fnarrow (some c) = if (single.read (single.write (.number false m e))).isInfinity then none else some (some (single.write (.number false m e))) := by
    have : FloatKind.f64.decode c = .number false m e := s1
    simp only [fnarrow]
    rw [this]; rfl
  rw [hfn]
  have hnot : (single.read (single.write (.number false m e))).isInfinity = false := by
    show (single.read (single.nearest false m e)).isInfinity = false
    have hbn : single.binade = 8388608 := rfl
    have hi : single.infRung = 2139095040 := rfl
    have hz : ∀ r, r < 2139095040 → (single.read (single.word false r)).isInfinity = false := by
      intro r hr
      rw [readWord single false (r := r) (by rw [hi]; exact hr)]
      split <;> rfl
    by_cases hm0 : m = 0
    · subst hm0
      have : single.nearest false 0 e = single.word false 0 := by unfold Format.nearest; rw [if_pos rfl]
      rw [this]; exact hz 0 (by decide)
    · obtain ⟨r, n1, n2⟩ := nearest_small single false (m := m) (p := e) (K := 190) hm0 (by
        have hl : single.leastPlace = -149 := rfl
        have hf : single.fractionBits = 23 := rfl
        have := s2 hm0
        rw [hl, hf]; omega) (by rw [hbn, hi]; decide)
      rw [hbn] at n2
      rw [n1]; exact hz r (by omega)
  rw [hnot]
  exact ⟨_, rfl⟩
theorem read_nearest {G : Nat} {Q : Int} (hG : G < 2 ^ 56) (hQ : Q ≤ 8) : ∃ m e, double.read (double.nearest false G Q) = .number false m e ∧ (m ≠ 0 → e + (m.log2 : Int) ≤ 64) := by
  have hbn : double.binade = 4503599627370496 := rfl
  have hl : double.leastPlace = -1074 := rfl
  have hi : double.infRung = 9218868437227405312 := rfl
  have hf : double.fractionBits = 52 := rfl
  have hz : ∀ r, r ≤ 1087 * 4503599627370496 → ∃ m e, double.read (double.word false r) = .number false m e ∧ (m ≠ 0 → e + (m.log2 : Int) ≤ 64) := by
    intro r n2
    rw [readWord double false (r := r) (by rw [hi]; omega)]
    split
    · rename_i hr
      rw [hbn] at hr
      refine ⟨_, _, rfl, fun hr0 => ?_⟩
      have := log2_lt_of (n := 52) hr0 (by omega)
      rw [hl]; omega
    · rename_i hr
      rw [hbn] at hr
      refine ⟨_, _, rfl, fun hr0 => ?_⟩
      have := log2_lt_of (n := 53) hr0 (by rw [hbn]; omega)
      rw [hl, hbn] at *
      have hd : r / 4503599627370496 ≤ 1087 := by omega
      omega
  by_cases hG0 : G = 0
  · subst hG0
    have : double.nearest false 0 Q = double.word false 0 := by unfold Format.nearest; rw [if_pos rfl]
    rw [this]; exact hz 0 (by omega)
  · have hGl : G.log2 < 56 := log2_lt_of hG0 hG
    obtain ⟨r, n1, n2⟩ := nearest_small double false (m := G) (p := Q) (K := 1085) hG0 (by rw [hl, hf]; omega) (by rw [hbn, hi]; decide)
    rw [hbn] at n2
    rw [n1]; exact hz r n2
theorem root_pos {M : Nat} {P : Int} (h0 : M ≠ 0) (hl : M.log2 = 52) (hP : P ≤ 75) : ∃ G Q, Datum.root 54 (.number false M P) = some (.number false G Q) ∧ G < 2 ^ 56 ∧ Q ≤ 8 := by
  unfold Datum.root
  dsimp only
  rw [if_neg h0, if_neg (by decide), hl]
  have hmod : ((P - ((2 * 54 - 52 : Nat) : Int)) % 2).toNat ≤ 1 := by omega
  generalize hmore : 2 * 54 - 52 + ((P - ((2 * 54 - 52 : Nat) : Int)) % 2).toNat = more
  have hmore2 : 56 ≤ more ∧ more ≤ 57 := by omega
  have hlogn : (M <<< more).log2 / 2 + 1 = 55 := by
    rw [Nat.shiftLeft_eq, log2_mul_pow h0, hl]; omega
  rw [hlogn]
  have hwh := rootFrom_lt (M <<< more) 55 0
  generalize Datum.rootFrom (M <<< more) 55 0 = W at hwh
  have hbit : (W * W != M <<< more).toNat ≤ 1 := Bool.toNat_le _
  exact ⟨_, _, rfl, by omega, by omega⟩
def rootN (y : F) : F := (fnarrow (fsqrt (fwiden y))).getD none
/-- The root of any number of single precision is one. -/
theorem root_narrow {y : F} (h : FOk .f32 y) : fnarrow (fsqrt (fwiden y)) = some (rootN y) := by
  have key : ∃ z, fnarrow (fsqrt (fwiden y)) = some z := by
    cases y with
    | none => exact ⟨none, rfl⟩
    | some b =>
      have hn := h.some.2
      have hw : fwiden (some b) = some (double.write (single.read b)) := rfl
      have hsq : ∀ R, fsqrt (some R) = ((double.read R).root 54).map double.write := fun _ => rfl
      rw [hw, hsq]
      rcases read_cases (f := single) (fmt_ok .f32) hn with ⟨g1, g2⟩ | ⟨g1, g2⟩
      · obtain ⟨m, a, e1, e2⟩ := read_fin single g1
        rw [e1]
        by_cases h0 : m = 0
        · subst h0
          have e3 : double.write (.number (wneg single b) 0 (single.leastPlace + (a : Int))) = double.word (wneg single b) 0 := by
            show double.nearest _ 0 _ = _
            unfold Format.nearest; rw [if_pos rfl]
          rw [e3]
          cases wneg single b <;> exact ⟨_, rfl⟩
        · obtain ⟨k1, k2, k3⟩ := single_num e1
          obtain ⟨R, r1, r2, r3, r4⟩ := widen_num (s := wneg single b) k1 k2 k3 h0
          have e3 : double.write (.number (wneg single b) m (single.leastPlace + (a : Int))) = double.word (wneg single b) R := r1
          rw [e3, r4]
          have hlog : m.log2 < 24 := log2_lt_of h0 k1
          generalize hM : m * 2 ^ (52 - m.log2) = M
          have hM0 : M ≠ 0 := by rw [← hM]; exact Nat.mul_ne_zero h0 (Nat.ne_of_gt (Nat.two_pow_pos _))
          have hMl : M.log2 = 52 := by rw [← hM, log2_mul_pow h0]; omega
          generalize hP : single.leastPlace + (a : Int) + (m.log2 : Int) - 52 = P
          have hP1 : P ≤ 75 := by omega
          cases hs : wneg single b with
          | true =>
            have : Datum.root 54 (.number true M P) = none := by
              unfold Datum.root
              dsimp only
              rw [if_neg hM0, if_pos rfl]
            rw [this]; exact ⟨none, rfl⟩
          | false =>
            obtain ⟨G, Q, q1, q2, q3⟩ := root_pos hM0 hMl hP1
            rw [q1]
            obtain ⟨m', e', s1, s2⟩ := read_nearest q2 q3
            exact narrow_num (c := double.nearest false G Q) s1 s2
      · rw [g2]
        cases wneg single b <;> exact ⟨_, rfl⟩
  obtain ⟨z, hz⟩ := key
  unfold rootN
  rw [hz]; rfl
theorem fnarrow_ok {x z : F} (h : fnarrow x = some z) : FOk .f32 z := by
  cases x with
  | none => cases h; exact fok_none _
  | some b =>
    unfold fnarrow at h
    simp only at h
    cases hd : FloatKind.f64.decode b with
    | nan s t => rw [hd] at h; cases h; exact fok_none _
    | infinity s => rw [hd] at h; cases h; exact ⟨_, encode_FR .f32 rfl⟩
    | number s m e =>
      rw [hd] at h
      simp only at h
      split at h
      · cases h
      · cases h; exact ⟨_, encode_FR .f32 rfl⟩
theorem rootN_ok {y : F} (h : FOk .f32 y) : FOk .f32 (rootN y) := fnarrow_ok (root_narrow h)
/-- The root of what is above zero and not finite is not finite. -/
theorem rootN_inf {y : F} (h : FOk .f32 y) (hp : flt .f32 (some 0) y = true) (hf : fin32 y = false) : fin32 (rootN y) = false := by
  cases y with
  | none => rfl
  | some b =>
    have hn := h.some.2
    rcases read_cases (f := single) (fmt_ok .f32) hn with ⟨_, g2⟩ | ⟨g1, g2⟩
    · simp [fin32, g2] at hf
    · cases hs : wneg single b with
      | true =>
        exfalso
        rw [hs] at g2
        have e : flt .f32 (some 0) (some b) = (single.order 0 b == some .lt) := rfl
        rw [e] at hp
        unfold Format.order at hp
        rw [g2] at hp
        have e0 : single.read 0 = .number false 0 (-149) := rfl
        rw [e0] at hp
        exact absurd hp (by decide)
      | false =>
        rw [hs] at g2
        have e : fnarrow (fsqrt (fwiden (some b))) = some (some (single.word false single.infRung)) := by
          have hw : fwiden (some b) = some (double.write (single.read b)) := rfl
          rw [hw, g2]; rfl
        unfold rootN
        rw [e]; decide
/-- What is not finite stays so. -/
theorem sub_not_fin {a b : F} (ha : fin32 a = false) : fin32 (fop .sub .f32 a b) = false := by
  cases a with
  | none => rfl
  | some x =>
    cases b with
    | none => rfl
    | some y =>
      have hx : (single.read x).isInfinity = true := by simpa [fin32] using ha
      have e : fop .sub .f32 (some x) (some y) = single.sub x y := rfl
      rw [e]
      unfold Format.sub
      cases hdx : single.read x with
      | number s m i => rw [hdx] at hx; cases hx
      | nan s t => rw [hdx] at hx; cases hx
      | infinity s =>
        cases hdy : single.read y with
        | number t n j => cases s <;> rfl
        | nan t u => rfl
        | infinity t => cases s <;> cases t <;> decide
end Go.AM

/- Plain facts on floats: numbers that stand exactly in their format, and operations that are exact. -/
namespace Go.AM
open Ieee

/-- How many places below the point. -/
def lpn (k : FloatKind) : Nat := match k with | .f32 => 149 | .f64 => 1074
/-- How many digits. -/
def dgn (k : FloatKind) : Nat := match k with | .f32 => 24 | .f64 => 53
def topn (k : FloatKind) : Nat := match k with | .f32 => 277 | .f64 => 2098
theorem lpn_eq (k : FloatKind) : k.format.leastPlace = -((lpn k : Nat) : Int) := by cases k <;> decide
theorem dgn_eq (k : FloatKind) : 2 ^ dgn k = 2 * k.format.binade := by cases k <;> decide
theorem topn_eq (k : FloatKind) : rval k.format k.format.infRung = 2 ^ topn k := by cases k <;> decide +kernel
theorem dg_top (k : FloatKind) : dgn k + lpn k < topn k := by cases k <;> decide
theorem rung_high (f : Format) {e q : Nat} (h1 : f.binade ≤ q) (h2 : q < 2 * f.binade) : rval f ((e + 1) * f.binade + (q - f.binade)) = q * 2 ^ e := by
  have hB := binade_pos f
  have hlt : q - f.binade < f.binade := by omega
  have hge : ¬ (e + 1) * f.binade + (q - f.binade) < f.binade := by
    rw [Nat.add_mul, Nat.one_mul]; omega
  unfold rval
  rw [if_neg hge]
  have m1 : ((e + 1) * f.binade + (q - f.binade)) % f.binade = q - f.binade := by
    rw [Nat.add_comm, Nat.add_mul_mod_self_right, Nat.mod_eq_of_lt hlt]
  have d1 : ((e + 1) * f.binade + (q - f.binade)) / f.binade = e + 1 := by
    rw [Nat.add_comm, Nat.add_mul_div_right _ _ hB, Nat.div_eq_of_lt hlt, Nat.zero_add]
  rw [m1, d1, show f.binade + (q - f.binade) = q from by omega, Nat.add_sub_cancel]
/-- A number of few enough digits stands on a rung. -/
theorem rep (f : Format) : ∀ (t m : Nat), m < 2 * f.binade → ∃ r, rval f r = m * 2 ^ t
  | t, m, h => by
    by_cases h1 : f.binade ≤ m
    · exact ⟨_, rung_high f h1 h⟩
    · match t with
      | 0 => exact ⟨m, by unfold rval; rw [if_pos (by omega)]; simp⟩
      | t + 1 =>
        obtain ⟨r, hr⟩ := rep f t (2 * m) (by omega)
        exact ⟨r, by rw [hr, Nat.pow_succ, Nat.mul_comm 2 m, Nat.mul_assoc, Nat.mul_comm 2]⟩
theorem lt_inf {k : FloatKind} {r : Nat} (h : rval k.format r < 2 ^ topn k) : r < k.format.infRung := by
  rcases Nat.lt_or_ge r k.format.infRung with h1 | h1
  · exact h1
  · have := rval_le k.format h1
    rw [topn_eq] at this; omega
/-- The number of a word, in units of the least place. -/
def fval (k : FloatKind) (b : Nat) : Int := sval (wneg k.format b) (rval k.format (wrung k.format b))
/-- x is n / 2 ^ s, exactly. -/
def Dy (k : FloatKind) (s : Nat) (n : Int) (x : F) : Prop := ∃ b, x = some b ∧ b < 2 ^ k.format.width ∧ wrung k.format b < k.format.infRung ∧ s ≤ lpn k ∧ fval k b = n * ((2 ^ (lpn k - s) : Nat) : Int)
theorem sval_natAbs (s : Bool) (v : Nat) : (sval s v).natAbs = v := by cases s <;> simp [sval]
theorem sval_of {n : Int} {sg : Bool} (h : n ≠ 0 → sg = decide (n < 0)) : sval sg n.natAbs = n := by
  by_cases hn : n = 0
  · subst hn; cases sg <;> rfl
  · rw [h hn]
    by_cases h0 : n < 0
    · rw [decide_eq_true h0]; simp only [sval, if_true]; omega
    · rw [decide_eq_false h0]; simp only [sval]; simp; omega
theorem pow_cast (n : Nat) : ((2 ^ n : Nat) : Int) ≠ 0 := by have := Nat.two_pow_pos n; omega
theorem Dy.word {k : FloatKind} {s : Nat} {n : Int} {sg : Bool} {r : Nat} (hs : s ≤ lpn k) (hr : rval k.format r = n.natAbs * 2 ^ (lpn k - s)) (hn : n.natAbs < 2 ^ dgn k) (h : n ≠ 0 → sg = decide (n < 0)) : Dy k s n (some (k.format.word sg r)) := by
  have hlt : r < k.format.infRung := by
    refine lt_inf ?_
    rw [hr]
    refine Nat.lt_of_lt_of_le (Nat.mul_lt_mul_of_pos_right hn (Nat.two_pow_pos _)) ?_
    rw [← Nat.pow_add]
    exact Nat.pow_le_pow_right (by decide) (by have := dg_top k; omega)
  have hi := k.format.infRung_lt
  obtain ⟨k1, k2⟩ := wneg_word k.format sg (r := r) (by omega)
  refine ⟨_, rfl, k.format.word_lt sg (by omega), by rw [k2]; exact hlt, hs, ?_⟩
  unfold fval
  rw [k1, k2, hr]
  have := sval_of h
  unfold sval at this ⊢
  cases sg
  · simp at this ⊢; rw [this]
  · simp at this ⊢; rw [← Int.neg_mul, this]
theorem sval_signed (s : Bool) (m a c : Nat) (hc : c ≤ a) : sval s (m * 2 ^ a) = signed s m (a - c) * ((2 ^ c : Nat) : Int) := by
  have : m * 2 ^ a = (m <<< (a - c)) * 2 ^ c := by
    rw [Nat.shiftLeft_eq, Nat.mul_assoc, ← Nat.pow_add]
    congr 2; omega
  unfold sval signed
  rw [this]
  cases s <;> simp [Int.neg_mul]
theorem sum_num (f : Format) {s t : Bool} {m n a b r : Nat} (hr : r ≤ f.infRung) (h : rval f r = (sval s (m * 2 ^ a) + sval t (n * 2 ^ b)).natAbs) :
    ∃ sg, (sval s (m * 2 ^ a) + sval t (n * 2 ^ b) ≠ 0 → sg = decide (sval s (m * 2 ^ a) + sval t (n * 2 ^ b) < 0)) ∧ (Datum.sum (.number s m (f.leastPlace + a)) (.number t n (f.leastPlace + b))).map f.write = some (f.word sg r) := by
  simp only [Datum.sum]
  have e1 : (f.leastPlace + (a : Int) - min (f.leastPlace + (a : Int)) (f.leastPlace + (b : Int))).toNat = a - min a b := by omega
  have e2 : (f.leastPlace + (b : Int) - min (f.leastPlace + (a : Int)) (f.leastPlace + (b : Int))).toNat = b - min a b := by omega
  have e3 : min (f.leastPlace + (a : Int)) (f.leastPlace + (b : Int)) = f.leastPlace + ((min a b : Nat) : Int) := by omega
  rw [e1, e2, e3]
  rw [sval_signed s m a (min a b) (Nat.min_le_left _ _), sval_signed t n b (min a b) (Nat.min_le_right _ _), ← Int.add_mul] at h ⊢
  generalize signed s m (a - min a b) + signed t n (b - min a b) = total at h ⊢
  have hp := Nat.two_pow_pos (min a b)
  have hpi : (0 : Int) < ((2 ^ min a b : Nat) : Int) := by omega
  refine ⟨if total = 0 then s && t else decide (total < 0), fun hne => ?_, ?_⟩
  · have h0 : total ≠ 0 := fun e => hne (by rw [e, Int.zero_mul])
    rw [if_neg h0]
    by_cases hl : total < 0
    · rw [decide_eq_true hl, decide_eq_true (Int.mul_neg_of_neg_of_pos hl hpi)]
    · rw [decide_eq_false hl, decide_eq_false]
      have := Int.mul_nonneg (show (0 : Int) ≤ total by omega) (show (0 : Int) ≤ ((2 ^ min a b : Nat) : Int) by omega)
      omega
  · simp only [Option.map_some]
    congr 1
    refine nearest_exact f _ hr (b := 0) (c := min a b) (by omega) ?_
    rw [h, Int.natAbs_mul]; simp
theorem mul_num (f : Format) {L : Nat} (hL : f.leastPlace = -(L : Int)) {s t : Bool} {m n a b r : Nat} (hr : r ≤ f.infRung) (h : rval f r * 2 ^ L = (m * 2 ^ a) * (n * 2 ^ b)) :
    (Datum.product (.number s m (f.leastPlace + a)) (.number t n (f.leastPlace + b))).map f.write = some (f.word (s ^^ t) r) := by
  simp only [Datum.product, Option.map_some]
  congr 1
  refine nearest_exact f _ hr (b := L) (c := a + b) (by rw [hL]; omega) ?_
  rw [h, Nat.pow_add]
  rw [Nat.mul_mul_mul_comm]
theorem Dy.fok {k : FloatKind} {s : Nat} {n : Int} {x : F} (h : Dy k s n x) : FOk k x := by
  obtain ⟨b, rfl, h1, h2, _⟩ := h
  obtain ⟨m, a, e, _⟩ := read_fin k.format h2
  exact ⟨b, rfl, h1, by rw [e]; rfl⟩
theorem Dy.add {k : FloatKind} {s : Nat} {n m : Int} {x y : F} (hx : Dy k s n x) (hy : Dy k s m y) (h : (n + m).natAbs < 2 ^ dgn k) : Dy k s (n + m) (fop .add k x y) := by
  obtain ⟨b, rfl, h1, h2, hs, h3⟩ := hx
  obtain ⟨c, rfl, g1, g2, _, g3⟩ := hy
  obtain ⟨p, a, e1, e2⟩ := read_fin k.format h2
  obtain ⟨q, d, e3, e4⟩ := read_fin k.format g2
  unfold fval at h3 g3
  rw [← e2] at h3
  rw [← e4] at g3
  obtain ⟨r, hr⟩ := rep k.format (lpn k - s) (n + m).natAbs (by rw [← dgn_eq]; exact h)
  have hsum : sval (wneg k.format b) (p * 2 ^ a) + sval (wneg k.format c) (q * 2 ^ d) = (n + m) * ((2 ^ (lpn k - s) : Nat) : Int) := by rw [h3, g3, Int.add_mul]
  have hlt : r < k.format.infRung := by
    refine lt_inf ?_
    rw [hr]
    refine Nat.lt_of_lt_of_le (Nat.mul_lt_mul_of_pos_right h (Nat.two_pow_pos _)) ?_
    rw [← Nat.pow_add]
    exact Nat.pow_le_pow_right (by decide) (by have := dg_top k; omega)
  obtain ⟨sg, k1, k2⟩ := sum_num k.format (s := wneg k.format b) (t := wneg k.format c) (m := p) (n := q) (a := a) (b := d) (r := r) (by omega) (by rw [hsum, hr, Int.natAbs_mul]; simp)
  have e : fop .add k (some b) (some c) = some (k.format.word sg r) := by
    show k.format.add b c = _
    unfold Format.add
    rw [e1, e3]; exact k2
  rw [e]
  refine Dy.word hs hr h fun hne => ?_
  have hp : (0 : Int) < ((2 ^ (lpn k - s) : Nat) : Int) := by have := Nat.two_pow_pos (lpn k - s); omega
  rw [hsum] at k1
  rw [k1 (Int.mul_ne_zero hne (by omega))]
  by_cases hl : n + m < 0
  · rw [decide_eq_true hl, decide_eq_true (Int.mul_neg_of_neg_of_pos hl hp)]
  · rw [decide_eq_false hl, decide_eq_false]
    have := Int.mul_nonneg (show (0 : Int) ≤ n + m by omega) (show (0 : Int) ≤ ((2 ^ (lpn k - s) : Nat) : Int) by omega)
    omega
theorem sval_not (s : Bool) (v : Nat) : sval (!s) v = -(sval s v) := by cases s <;> simp [sval]
theorem Dy.sub {k : FloatKind} {s : Nat} {n m : Int} {x y : F} (hx : Dy k s n x) (hy : Dy k s m y) (h : (n - m).natAbs < 2 ^ dgn k) : Dy k s (n - m) (fop .sub k x y) := by
  obtain ⟨b, rfl, h1, h2, hs, h3⟩ := hx
  obtain ⟨c, rfl, g1, g2, _, g3⟩ := hy
  obtain ⟨p, a, e1, e2⟩ := read_fin k.format h2
  obtain ⟨q, d, e3, e4⟩ := read_fin k.format g2
  unfold fval at h3 g3
  rw [← e2] at h3
  rw [← e4] at g3
  obtain ⟨r, hr⟩ := rep k.format (lpn k - s) (n - m).natAbs (by rw [← dgn_eq]; exact h)
  have hsum : sval (wneg k.format b) (p * 2 ^ a) + sval (!wneg k.format c) (q * 2 ^ d) = (n - m) * ((2 ^ (lpn k - s) : Nat) : Int) := by rw [sval_not, h3, g3, Int.sub_mul, Int.sub_eq_add_neg]
  have hlt : r < k.format.infRung := by
    refine lt_inf ?_
    rw [hr]
    refine Nat.lt_of_lt_of_le (Nat.mul_lt_mul_of_pos_right h (Nat.two_pow_pos _)) ?_
    rw [← Nat.pow_add]
    exact Nat.pow_le_pow_right (by decide) (by have := dg_top k; omega)
  obtain ⟨sg, k1, k2⟩ := sum_num k.format (s := wneg k.format b) (t := !wneg k.format c) (m := p) (n := q) (a := a) (b := d) (r := r) (by omega) (by rw [hsum, hr, Int.natAbs_mul]; simp)
  have e : fop .sub k (some b) (some c) = some (k.format.word sg r) := by
    show k.format.sub b c = _
    unfold Format.sub
    rw [e1, e3]; exact k2
  rw [e]
  refine Dy.word hs hr h fun hne => ?_
  have hp : (0 : Int) < ((2 ^ (lpn k - s) : Nat) : Int) := by have := Nat.two_pow_pos (lpn k - s); omega
  rw [hsum] at k1
  rw [k1 (Int.mul_ne_zero hne (by omega))]
  by_cases hl : n - m < 0
  · rw [decide_eq_true hl, decide_eq_true (Int.mul_neg_of_neg_of_pos hl hp)]
  · rw [decide_eq_false hl, decide_eq_false]
    have := Int.mul_nonneg (show (0 : Int) ≤ n - m by omega) (show (0 : Int) ≤ ((2 ^ (lpn k - s) : Nat) : Int) by omega)
    omega
theorem sval_sign {s : Bool} {v : Nat} {n p : Int} (hp : 0 < p) (h : sval s v = n * p) (hn : n ≠ 0) : s = decide (n < 0) := by
  cases s
  · refine (decide_eq_false fun h0 => ?_).symm
    have := Int.mul_neg_of_neg_of_pos h0 hp
    simp only [sval] at h
    simp at h; omega
  · refine (decide_eq_true ?_).symm
    rcases Int.lt_or_le n 0 with h0 | h0
    · exact h0
    · exfalso
      have := Int.mul_pos (show 0 < n by omega) hp
      simp only [sval] at h
      simp at h; omega
theorem Dy.mul {k : FloatKind} {s t : Nat} {n m : Int} {x y : F} (hx : Dy k s n x) (hy : Dy k t m y) (hst : s + t ≤ lpn k) (h : (n * m).natAbs < 2 ^ dgn k) : Dy k (s + t) (n * m) (fop .mul k x y) := by
  obtain ⟨b, rfl, h1, h2, hs, h3⟩ := hx
  obtain ⟨c, rfl, g1, g2, ht, g3⟩ := hy
  obtain ⟨p, a, e1, e2⟩ := read_fin k.format h2
  obtain ⟨q, d, e3, e4⟩ := read_fin k.format g2
  unfold fval at h3 g3
  rw [← e2] at h3
  rw [← e4] at g3
  obtain ⟨r, hr⟩ := rep k.format (lpn k - (s + t)) (n * m).natAbs (by rw [← dgn_eq]; exact h)
  have hlt : r < k.format.infRung := by
    refine lt_inf ?_
    rw [hr]
    refine Nat.lt_of_lt_of_le (Nat.mul_lt_mul_of_pos_right h (Nat.two_pow_pos _)) ?_
    rw [← Nat.pow_add]
    exact Nat.pow_le_pow_right (by decide) (by have := dg_top k; omega)
  have n1 : p * 2 ^ a = n.natAbs * 2 ^ (lpn k - s) := by
    have := congrArg Int.natAbs h3
    rw [sval_natAbs, Int.natAbs_mul] at this
    simpa using this
  have n2 : q * 2 ^ d = m.natAbs * 2 ^ (lpn k - t) := by
    have := congrArg Int.natAbs g3
    rw [sval_natAbs, Int.natAbs_mul] at this
    simpa using this
  have e : fop .mul k (some b) (some c) = some (k.format.word (wneg k.format b ^^ wneg k.format c) r) := by
    show k.format.mul b c = _
    unfold Format.mul
    rw [e1, e3]
    refine mul_num k.format (lpn_eq k) (by omega) ?_
    rw [hr, n1, n2, Int.natAbs_mul, Nat.mul_assoc, ← Nat.pow_add, Nat.mul_mul_mul_comm, ← Nat.pow_add]
    congr 2; omega
  rw [e]
  refine Dy.word hst hr h fun hne => ?_
  have hp1 : (0 : Int) < ((2 ^ (lpn k - s) : Nat) : Int) := by have := Nat.two_pow_pos (lpn k - s); omega
  have hp2 : (0 : Int) < ((2 ^ (lpn k - t) : Nat) : Int) := by have := Nat.two_pow_pos (lpn k - t); omega
  have hn0 : n ≠ 0 := fun e => hne (by rw [e, Int.zero_mul])
  have hm0 : m ≠ 0 := fun e => hne (by rw [e, Int.mul_zero])
  rw [sval_sign hp1 h3 hn0, sval_sign hp2 g3 hm0]
  rcases Int.lt_or_gt_of_ne hn0 with u | u <;> rcases Int.lt_or_gt_of_ne hm0 with v | v
  · have := Int.mul_pos_of_neg_of_neg u v
    rw [decide_eq_true u, decide_eq_true v, decide_eq_false (by omega)]; rfl
  · have := Int.mul_neg_of_neg_of_pos u v
    rw [decide_eq_true u, decide_eq_false (by omega), decide_eq_true this]; rfl
  · have := Int.mul_neg_of_pos_of_neg u v
    rw [decide_eq_false (by omega), decide_eq_true v, decide_eq_true this]; rfl
  · have := Int.mul_pos u v
    rw [decide_eq_false (by omega), decide_eq_false (by omega), decide_eq_false (by omega)]; rfl
theorem Dy.ord {k : FloatKind} {s : Nat} {n m : Int} {x y : F} (hx : Dy k s n x) (hy : Dy k s m y) : ford k x y = some (compare n m) := by
  obtain ⟨b, rfl, h1, h2, hs, h3⟩ := hx
  obtain ⟨c, rfl, g1, g2, _, g3⟩ := hy
  show k.format.order b c = _
  rw [order_fin k.format h2 g2]
  unfold fval at h3 g3
  rw [h3, g3, compare_mul (by have := Nat.two_pow_pos (lpn k - s); omega)]
theorem Dy.feq {k : FloatKind} {s : Nat} {n m : Int} {x y : F} (hx : Dy k s n x) (hy : Dy k s m y) : feq k x y = decide (n = m) := by
  unfold AM.feq
  rw [hx.ord hy]
  rcases Int.lt_trichotomy n m with h | h | h
  · rw [Int.compare_eq_lt.2 h, decide_eq_false (by omega)]; rfl
  · rw [Int.compare_eq_eq.2 h, decide_eq_true h]; rfl
  · rw [Int.compare_eq_gt.2 h, decide_eq_false (by omega)]; rfl
theorem Dy.flt {k : FloatKind} {s : Nat} {n m : Int} {x y : F} (hx : Dy k s n x) (hy : Dy k s m y) : flt k x y = decide (n < m) := by
  unfold AM.flt
  rw [hx.ord hy]
  rcases Int.lt_trichotomy n m with h | h | h
  · rw [Int.compare_eq_lt.2 h, decide_eq_true h]; rfl
  · rw [Int.compare_eq_eq.2 h, decide_eq_false (by omega)]; rfl
  · rw [Int.compare_eq_gt.2 h, decide_eq_false (by omega)]; rfl
theorem Dy.fle {k : FloatKind} {s : Nat} {n m : Int} {x y : F} (hx : Dy k s n x) (hy : Dy k s m y) : fle k x y = decide (n ≤ m) := by
  unfold AM.fle
  rw [hx.ord hy]
  rcases Int.lt_trichotomy n m with h | h | h
  · rw [Int.compare_eq_lt.2 h, decide_eq_true (by omega)]; rfl
  · rw [Int.compare_eq_eq.2 h, decide_eq_true (by omega)]; rfl
  · rw [Int.compare_eq_gt.2 h, decide_eq_false (by omega)]; rfl
theorem Dy.scale {k : FloatKind} {s : Nat} {n : Int} {x : F} (h : Dy k s n x) {t : Nat} (ht : s + t ≤ lpn k) : Dy k (s + t) (n * ((2 ^ t : Nat) : Int)) x := by
  obtain ⟨b, rfl, h1, h2, hs, h3⟩ := h
  refine ⟨b, rfl, h1, h2, ht, ?_⟩
  rw [h3, Int.mul_assoc]
  congr 1
  have : 2 ^ (lpn k - s) = 2 ^ t * 2 ^ (lpn k - (s + t)) := by rw [← Nat.pow_add]; congr 1; omega
  rw [this]; simp
theorem Dy.zero (k : FloatKind) {s : Nat} (hs : s ≤ lpn k) : Dy k s 0 (some 0) := by
  have e : (0 : Nat) = k.format.word false 0 := rfl
  rw [e]
  exact Dy.word hs (by rw [rval_zero]; simp) (Nat.two_pow_pos _) fun h => absurd rfl h
theorem Dy.int {k : FloatKind} {n : Int} (h : n.natAbs < 2 ^ dgn k) : Dy k 0 n (fint k n) := by
  obtain ⟨r, hr⟩ := rep k.format (lpn k) n.natAbs (by rw [← dgn_eq]; exact h)
  have hlt : r < k.format.infRung := by
    refine lt_inf ?_
    rw [hr]
    refine Nat.lt_of_lt_of_le (Nat.mul_lt_mul_of_pos_right h (Nat.two_pow_pos _)) ?_
    rw [← Nat.pow_add]
    exact Nat.pow_le_pow_right (by decide) (by have := dg_top k; omega)
  have e : fint k n = some (k.format.word (decide (n < 0)) r) := by
    unfold fint
    congr 1
    show k.format.nearest (decide (n < 0)) n.natAbs 0 = _
    refine nearest_exact k.format _ (by omega) (b := 0) (c := lpn k) (by rw [lpn_eq]; omega) ?_
    rw [hr]; simp
  rw [e]
  exact Dy.word (by omega) hr h fun _ => rfl
theorem Dy.word' {k : FloatKind} {s : Nat} {n : Int} {sg : Bool} {r : Nat} (hs : s ≤ lpn k) (hr : rval k.format r = n.natAbs * 2 ^ (lpn k - s)) (hlt : r < k.format.infRung) (h : n ≠ 0 → sg = decide (n < 0)) : Dy k s n (some (k.format.word sg r)) := by
  have hi := k.format.infRung_lt
  obtain ⟨k1, k2⟩ := wneg_word k.format sg (r := r) (by omega)
  refine ⟨_, rfl, k.format.word_lt sg (by omega), by rw [k2]; exact hlt, hs, ?_⟩
  unfold fval
  rw [k1, k2, hr]
  have := sval_of h
  unfold sval at this ⊢
  cases sg
  · simp at this ⊢; rw [this]
  · simp at this ⊢; rw [← Int.neg_mul, this]
theorem rval_split (f : Format) (r : Nat) : ∃ q e, rval f r = q * 2 ^ e ∧ q < 2 * f.binade := by
  have hB := binade_pos f
  unfold rval
  split
  · exact ⟨r, 0, by simp, by omega⟩
  · exact ⟨_, _, rfl, by have := Nat.mod_lt r hB; omega⟩
theorem quo_num (f : Format) {L : Nat} (hL : f.leastPlace = -(L : Int)) {s t : Bool} {m n a b r : Nat} (hn : n ≠ 0) (hr : r ≤ f.infRung) (h : rval f r * (n * 2 ^ b) = (m * 2 ^ a) * 2 ^ L) :
    (Datum.quotient (f.fractionBits + 2) (.number s m (f.leastPlace + a)) (.number t n (f.leastPlace + b))).map f.write = some (f.word (s ^^ t) r) := by
  have hdvd : (m * 2 ^ (f.fractionBits + 2 + n.log2 - m.log2)) % n = 0 := by
    by_cases hm : m = 0
    · subst hm; simp
    obtain ⟨q, e, hq, hq2⟩ := rval_split f r
    rw [hq] at h
    have hqn : q * n * 2 ^ (e + b) = m * 2 ^ (a + L) := by
      rw [Nat.pow_add, Nat.pow_add, ← Nat.mul_assoc m, ← h, Nat.mul_mul_mul_comm]
    have hq0 : q ≠ 0 := by
      intro e0
      rw [e0, Nat.zero_mul, Nat.zero_mul] at hqn
      rcases Nat.mul_eq_zero.1 hqn.symm with h0 | h0
      · exact hm h0
      · exact absurd h0 (Nat.ne_of_gt (Nat.two_pow_pos _))
    by_cases hc : a + L ≤ e + b
    · have e1 : 2 ^ (e + b) = 2 ^ (e + b - (a + L)) * 2 ^ (a + L) := by rw [← Nat.pow_add]; congr 1; omega
      rw [e1, ← Nat.mul_assoc] at hqn
      have := Nat.eq_of_mul_eq_mul_right (Nat.two_pow_pos (a + L)) hqn
      rw [← this, Nat.mul_right_comm q n, Nat.mul_right_comm _ n]
      exact Nat.mul_mod_left _ _
    · have e1 : 2 ^ (a + L) = 2 ^ (a + L - (e + b)) * 2 ^ (e + b) := by rw [← Nat.pow_add]; congr 1; omega
      rw [e1, ← Nat.mul_assoc] at hqn
      have hqd := Nat.eq_of_mul_eq_mul_right (Nat.two_pow_pos (e + b)) hqn
      generalize hd : a + L - (e + b) = d at hqd
      have hlog : m.log2 + d = (q * n).log2 := by rw [hqd, log2_mul_pow hm]
      have hn1 : n < 2 ^ (n.log2 + 1) := (Nat.log2_lt hn).1 (Nat.lt_succ_self _)
      have hb2 : q < 2 ^ (f.fractionBits + 1) := by
        rw [Nat.pow_succ, Nat.mul_comm]; exact hq2
      have hlt : (q * n).log2 < f.fractionBits + 1 + (n.log2 + 1) := by
        refine (Nat.log2_lt (Nat.mul_ne_zero hq0 hn)).2 ?_
        rw [Nat.pow_add]
        exact Nat.mul_lt_mul'' hb2 hn1
      have hmore : 2 ^ (f.fractionBits + 2 + n.log2 - m.log2) = 2 ^ d * 2 ^ (f.fractionBits + 2 + n.log2 - m.log2 - d) := by rw [← Nat.pow_add]; congr 1; omega
      rw [hmore, ← Nat.mul_assoc, ← hqd, Nat.mul_right_comm]
      exact Nat.mul_mod_left _ _
  have e3 : ∀ more : Nat, (f.leastPlace + (a : Int)) - (f.leastPlace + (b : Int)) - (more : Int) - 1 + ((b + more + 1 : Nat) : Int) = f.leastPlace + ((a + L : Nat) : Int) := by intro more; rw [hL]; omega
  simp only [Datum.quotient, hn, if_false, Option.map_some]
  generalize hmo : f.fractionBits + 2 + n.log2 - m.log2 = more at *
  rw [Nat.shiftLeft_eq]
  congr 1
  rw [hdvd]
  refine nearest_exact f _ hr (b := b + more + 1) (c := a + L) (e3 more) ?_
  have hQ : n * (m * 2 ^ more / n) = m * 2 ^ more := Nat.mul_div_cancel' (Nat.dvd_of_mod_eq_zero hdvd)
  generalize m * 2 ^ more / n = Q at hQ
  have : n * ((2 * Q + (0 != 0 : Bool).toNat) * 2 ^ (a + L)) = n * (rval f r * 2 ^ (b + more + 1)) := by
    show n * ((2 * Q + 0) * 2 ^ (a + L)) = _
    have h2 : rval f r * (n * 2 ^ b) * (2 ^ more * 2) = m * 2 ^ a * 2 ^ L * (2 ^ more * 2) := by rw [h]
    rw [Nat.pow_add 2 a L, Nat.pow_add 2 (b + more) 1, Nat.pow_add 2 b more, Nat.pow_one]
    have l : n * ((2 * Q + 0) * (2 ^ a * 2 ^ L)) = n * Q * (2 ^ a * 2 ^ L * 2) := by
      rw [Nat.add_zero]; simp only [Nat.mul_comm, Nat.mul_assoc]
    rw [l, hQ]
    have l2 : m * 2 ^ more * (2 ^ a * 2 ^ L * 2) = m * 2 ^ a * 2 ^ L * (2 ^ more * 2) := by simp only [Nat.mul_comm, Nat.mul_left_comm, Nat.mul_assoc]
    rw [l2, ← h2]
    simp only [Nat.mul_comm, Nat.mul_left_comm, Nat.mul_assoc]
  exact Nat.eq_of_mul_eq_mul_left (Nat.pos_of_ne_zero hn) this
theorem Dy.quo {k : FloatKind} {s t : Nat} {q m : Int} {x y : F} (hx : Dy k s (q * m) x) (hy : Dy k t m y) (hm : m ≠ 0) (hst : t ≤ s) (h : q.natAbs < 2 ^ dgn k) : Dy k (s - t) q (fop .quo k x y) := by
  obtain ⟨b, rfl, h1, h2, hs, h3⟩ := hx
  obtain ⟨c, rfl, g1, g2, ht, g3⟩ := hy
  obtain ⟨p, a, e1, e2⟩ := read_fin k.format h2
  obtain ⟨w, d, e3, e4⟩ := read_fin k.format g2
  unfold fval at h3 g3
  rw [← e2] at h3
  rw [← e4] at g3
  obtain ⟨r, hr⟩ := rep k.format (lpn k - (s - t)) q.natAbs (by rw [← dgn_eq]; exact h)
  have hlt : r < k.format.infRung := by
    refine lt_inf ?_
    rw [hr]
    refine Nat.lt_of_lt_of_le (Nat.mul_lt_mul_of_pos_right h (Nat.two_pow_pos _)) ?_
    rw [← Nat.pow_add]
    exact Nat.pow_le_pow_right (by decide) (by have := dg_top k; omega)
  have n1 : p * 2 ^ a = (q.natAbs * m.natAbs) * 2 ^ (lpn k - s) := by
    have := congrArg Int.natAbs h3
    rw [sval_natAbs, Int.natAbs_mul, Int.natAbs_mul] at this
    simpa using this
  have n2 : w * 2 ^ d = m.natAbs * 2 ^ (lpn k - t) := by
    have := congrArg Int.natAbs g3
    rw [sval_natAbs, Int.natAbs_mul] at this
    simpa using this
  have hw : w ≠ 0 := by
    intro e0
    rw [e0, Nat.zero_mul] at n2
    have := Nat.mul_pos (show 0 < m.natAbs by omega) (Nat.two_pow_pos (lpn k - t))
    omega
  have e : fop .quo k (some b) (some c) = some (k.format.word (wneg k.format b ^^ wneg k.format c) r) := by
    show k.format.div b c = _
    unfold Format.div
    rw [e1, e3]
    refine quo_num k.format (lpn_eq k) hw (by omega) ?_
    rw [hr, n1, n2, Nat.mul_mul_mul_comm, ← Nat.pow_add, Nat.mul_assoc (q.natAbs * m.natAbs), ← Nat.pow_add]
    congr 2; omega
  rw [e]
  refine Dy.word (by omega) hr h fun hne => ?_
  have hp1 : (0 : Int) < ((2 ^ (lpn k - s) : Nat) : Int) := by have := Nat.two_pow_pos (lpn k - s); omega
  have hp2 : (0 : Int) < ((2 ^ (lpn k - t) : Nat) : Int) := by have := Nat.two_pow_pos (lpn k - t); omega
  rw [sval_sign hp1 h3 (Int.mul_ne_zero hne hm), sval_sign hp2 g3 hm]
  rcases Int.lt_or_gt_of_ne hne with u | u <;> rcases Int.lt_or_gt_of_ne hm with v | v
  · have := Int.mul_pos_of_neg_of_neg u v
    rw [decide_eq_false (by omega), decide_eq_true v, decide_eq_true u]; rfl
  · have := Int.mul_neg_of_neg_of_pos u v
    rw [decide_eq_true this, decide_eq_false (by omega), decide_eq_true u]; rfl
  · have := Int.mul_neg_of_pos_of_neg u v
    rw [decide_eq_true this, decide_eq_true v, decide_eq_false (by omega)]; rfl
  · have := Int.mul_pos u v
    rw [decide_eq_false (by omega), decide_eq_false (by omega), decide_eq_false (by omega)]; rfl
theorem Dy.widen {s : Nat} {n : Int} {x : F} (hx : Dy .f32 s n x) : Dy .f64 s n (fwiden x) := by
  obtain ⟨b, rfl, h1, h2, hs, h3⟩ := hx
  have hs : s ≤ 149 := hs
  have h2 : wrung single b < single.infRung := h2
  obtain ⟨p, a, e1, e2⟩ := read_fin single h2
  unfold fval at h3
  have h3 : sval (wneg single b) (rval single (wrung single b)) = n * ((2 ^ (149 - s) : Nat) : Int) := h3
  rw [← e2] at h3
  have n1 : p * 2 ^ a = n.natAbs * 2 ^ (149 - s) := by
    have := congrArg Int.natAbs h3
    rw [sval_natAbs, Int.natAbs_mul] at this
    simpa using this
  obtain ⟨hp, _, _⟩ := single_num e1
  obtain ⟨G, hG⟩ : ∃ G : Nat, G = 925 := ⟨925, rfl⟩
  obtain ⟨r, hr⟩ := rep double (a + G) p (by have e5 : (2 * double.binade) = 2 ^ 53 := (by decide); have e6 : (2 : Nat) ^ 24 < 2 ^ 53 := (by decide); omega)
  have hrn : rval double r = n.natAbs * 2 ^ (1074 - s) := by
    rw [hr, Nat.pow_add, ← Nat.mul_assoc, n1, Nat.mul_assoc, ← Nat.pow_add]
    congr 2; omega
  have hlt : r < double.infRung := by
    refine lt_inf (k := .f64) ?_
    show rval double r < 2 ^ topn .f64
    rw [hr, Nat.pow_add, ← Nat.mul_assoc, e2]
    have t1 : rval single (wrung single b) < 2 ^ topn .f32 := by
      exact (topn_eq .f32) ▸ rval_mono single h2
    refine Nat.lt_of_lt_of_le (Nat.mul_lt_mul_of_pos_right t1 (Nat.two_pow_pos _)) ?_
    rw [← Nat.pow_add]
    exact Nat.pow_le_pow_right (by decide) (by show 277 + G ≤ 2098; omega)
  have e : fwiden (some b) = some (double.word (wneg single b) r) := by
    show some (double.write (single.read b)) = _
    rw [e1]
    congr 1
    refine nearest_exact double _ (by omega) (b := 0) (c := a + G) ?_ (by rw [hr]; simp)
    show (single.leastPlace + (a : Int)) + ((0 : Nat) : Int) = double.leastPlace + ((a + G : Nat) : Int)
    rw [show single.leastPlace = -149 from by decide, show double.leastPlace = -1074 from by decide]; omega
  rw [e]
  refine Dy.word' (k := .f64) (show s ≤ 1074 by omega) hrn hlt fun hne => sval_sign ?_ h3 hne
  have := Nat.two_pow_pos (149 - s); omega
theorem Dy.narrow {s : Nat} {n : Int} {x : F} (hx : Dy .f64 s n x) (hs : s ≤ 149) (hn : n.natAbs < 16777216) : ∃ z, fnarrow x = some z ∧ Dy .f32 s n z := by
  obtain ⟨b, rfl, h1, h2, _, h3⟩ := hx
  have h2 : wrung double b < double.infRung := h2
  obtain ⟨p, a, e1, e2⟩ := read_fin double h2
  unfold fval at h3
  have h3 : sval (wneg double b) (rval double (wrung double b)) = n * ((2 ^ (1074 - s) : Nat) : Int) := h3
  rw [← e2] at h3
  have n1 : p * 2 ^ a = n.natAbs * 2 ^ (1074 - s) := by
    have := congrArg Int.natAbs h3
    rw [sval_natAbs, Int.natAbs_mul] at this
    simpa using this
  obtain ⟨r, hr⟩ := rep single (149 - s) n.natAbs (by have e5 : 2 * single.binade = 16777216 := (by decide); omega)
  have hd : n.natAbs < 2 ^ dgn .f32 := hn
  have hlt : r < single.infRung := by
    refine lt_inf (k := .f32) ?_
    show rval single r < 2 ^ topn .f32
    rw [hr]
    refine Nat.lt_of_lt_of_le (Nat.mul_lt_mul_of_pos_right hd (Nat.two_pow_pos _)) ?_
    rw [← Nat.pow_add]
    exact Nat.pow_le_pow_right (by decide) (by show 24 + (149 - s) ≤ 277; omega)
  obtain ⟨G, hG⟩ : ∃ G : Nat, G = 925 := ⟨925, rfl⟩
  have e : FloatKind.f32.encode (.number (wneg double b) p (double.leastPlace + (a : Int))) = single.word (wneg double b) r := by
    refine nearest_exact single _ (by omega) (b := G) (c := a) ?_ ?_
    · rw [show single.leastPlace = -149 from by decide, show double.leastPlace = -1074 from by decide]; omega
    · rw [hr, n1, Nat.mul_assoc, ← Nat.pow_add]
      congr 2; omega
  have hi := single.infRung_lt
  obtain ⟨k1, k2⟩ := wneg_word single (wneg double b) (r := r) (by omega)
  refine ⟨some (single.word (wneg double b) r), ?_, ?_⟩
  · have hdec : FloatKind.f64.decode b = .number (wneg double b) p (double.leastPlace + (a : Int)) := e1
    unfold fnarrow
    simp only [hdec, e]
    obtain ⟨m', a', e5, _⟩ := read_fin single (w := single.word (wneg double b) r) (by rw [k2]; exact hlt)
    rw [show FloatKind.f32.decode (single.word (wneg double b) r) = single.read (single.word (wneg double b) r) from rfl, e5]
    rfl
  · refine Dy.word' (k := .f32) hs hr hlt fun hne => sval_sign ?_ h3 hne
    have := Nat.two_pow_pos (1074 - s); omega
theorem Dy.fin {s : Nat} {n : Int} {x : F} (h : Dy .f32 s n x) : fin32 x = true := by
  obtain ⟨b, rfl, _, h2, _⟩ := h
  obtain ⟨m, a, e, _⟩ := read_fin _ h2
  have e' : Ieee.single.read b = _ := e
  show (!(Ieee.single.read b).isInfinity) = true
  rw [e']; rfl
/-- A zero. -/
theorem Dy.zero_is {k : FloatKind} {s : Nat} {x : F} (h : Dy k s 0 x) : x = some 0 ∨ x = some k.format.signWeight := by
  obtain ⟨b, rfl, h1, h2, _, h3⟩ := h
  rw [Int.zero_mul] at h3
  have hr : rval k.format (wrung k.format b) = 0 := by
    unfold fval at h3
    have := congrArg Int.natAbs h3
    rwa [sval_natAbs] at this
  have h0 : wrung k.format b = 0 := rval_inj _ (hr.trans (rval_zero _).symm)
  rw [width_weight] at h1
  have hb := word_eta k.format h1
  rw [h0] at hb
  unfold Format.word at hb
  split at hb
  · exact .inr (congrArg some hb)
  · exact .inl (congrArg some hb)
end Go.AM

/- Plain facts on floats: how great double-precision results can be. Own work. -/
namespace Go.AM
open Ieee

/-- No number, or one below 2 ^ (E + 1). -/
def Bd (E : Int) (x : F) : Prop := ∀ b, x = some b → ∃ s m e, double.read b = .number s m e ∧ (m ≠ 0 → e + (m.log2 : Int) ≤ E)
theorem Bd.none (E : Int) : Bd E none := fun _ h => by cases h
theorem Bd.mono {A B : Int} {x : F} (h : Bd A x) (hab : A ≤ B) : Bd B x := fun b hb => by
  obtain ⟨s, m, e, h1, h2⟩ := h b hb
  exact ⟨s, m, e, h1, fun h => by have := h2 h; omega⟩
/-- No number, or one of at least 2 ^ L. -/
def Lo (L : Int) (x : F) : Prop := ∀ b, x = some b → ∃ s m e, double.read b = .number s m e ∧ m ≠ 0 ∧ L ≤ e + (m.log2 : Int)
/-- No number, or one that is not below zero. -/
def Nn (E : Int) (x : F) : Prop := ∀ b, x = some b → ∃ s m e, double.read b = .number s m e ∧ (m ≠ 0 → e + (m.log2 : Int) ≤ E) ∧ (m ≠ 0 → s = false)
def bdB (E : Int) (b : Nat) : Bool := match double.read b with
  | .number _ m e => (m == 0) || decide (e + (m.log2 : Int) ≤ E)
  | _ => false
theorem bd_of {E : Int} {b : Nat} (h : bdB E b = true) : Bd E (some b) := fun c hc => by
  obtain rfl := Option.some.inj hc
  unfold bdB at h
  cases hd : double.read b with
  | number s m e =>
    rw [hd] at h
    refine ⟨s, m, e, rfl, fun h0 => ?_⟩
    simp only [Bool.or_eq_true, beq_iff_eq, decide_eq_true_eq] at h
    exact h.resolve_left h0
  | infinity s => rw [hd] at h; cases h
  | nan s t => rw [hd] at h; cases h
def loB (L : Int) (b : Nat) : Bool := match double.read b with
  | .number _ m e => (m != 0) && decide (L ≤ e + (m.log2 : Int))
  | _ => false
theorem lo_of {L : Int} {b : Nat} (h : loB L b = true) : Lo L (some b) := fun c hc => by
  obtain rfl := Option.some.inj hc
  unfold loB at h
  cases hd : double.read b with
  | number s m e =>
    rw [hd] at h
    simp only [Bool.and_eq_true, bne_iff_ne, decide_eq_true_eq] at h
    exact ⟨s, m, e, rfl, h.1, h.2⟩
  | infinity s => rw [hd] at h; cases h
  | nan s t => rw [hd] at h; cases h
theorem read_small {s : Bool} {m : Nat} {p E : Int} (h : m ≠ 0 → p + (m.log2 : Int) ≤ E) (h1 : -1022 ≤ E) (h2 : E ≤ 1000) : ∃ m' e', double.read (double.nearest s m p) = .number s m' e' ∧ (m' ≠ 0 → e' + (m'.log2 : Int) ≤ E + 1) := by
  have hbn : double.binade = 4503599627370496 := rfl
  have hl : double.leastPlace = -1074 := rfl
  have hi : double.infRung = 9218868437227405312 := rfl
  have hf : double.fractionBits = 52 := rfl
  have hz : ∀ r, r ≤ ((E + 1022).toNat + 2) * 4503599627370496 → ∃ m e, double.read (double.word s r) = .number s m e ∧ (m ≠ 0 → e + (m.log2 : Int) ≤ E + 1) := by
    intro r n2
    have hlt : r < 9218868437227405312 := by
      have : ((E + 1022).toNat + 2) * 4503599627370496 ≤ 2024 * 4503599627370496 := Nat.mul_le_mul_right _ (by omega)
      omega
    rw [readWord double s (r := r) (by rw [hi]; exact hlt)]
    split
    · rename_i hr
      rw [hbn] at hr
      refine ⟨_, _, rfl, fun hr0 => ?_⟩
      have := log2_lt_of (n := 52) hr0 (by omega)
      rw [hl]; omega
    · rename_i hr
      rw [hbn] at hr
      refine ⟨_, _, rfl, fun hr0 => ?_⟩
      have := log2_lt_of (n := 53) hr0 (by rw [hbn]; omega)
      rw [hl, hbn] at *
      have hd : r / 4503599627370496 ≤ (E + 1022).toNat + 2 := by
        rw [Nat.div_le_iff_le_mul (by decide)]; omega
      omega
  by_cases hm : m = 0
  · subst hm
    have : double.nearest s 0 p = double.word s 0 := by unfold Format.nearest; rw [if_pos rfl]
    rw [this]; exact hz 0 (by omega)
  · obtain ⟨r, n1, n2⟩ := nearest_small double s (m := m) (p := p) (K := (E + 1022).toNat) hm (by have := h hm; rw [hl, hf]; omega) (by
      rw [hbn, hi]
      have : ((E + 1022).toNat + 2) * 4503599627370496 ≤ 2024 * 4503599627370496 := Nat.mul_le_mul_right _ (by omega)
      omega)
    rw [hbn] at n2
    rw [n1]; exact hz r n2
theorem log2_mul_le {m n : Nat} (h : m * n ≠ 0) : (m * n).log2 ≤ m.log2 + n.log2 + 1 := by
  have hm : m ≠ 0 := fun e => h (by rw [e, Nat.zero_mul])
  have h1 : m < 2 ^ (m.log2 + 1) := Nat.lt_log2_self
  have h2 : n < 2 ^ (n.log2 + 1) := Nat.lt_log2_self
  have h3 : m * n < 2 ^ (m.log2 + 1 + (n.log2 + 1)) := by
    rw [Nat.pow_add]
    exact Nat.mul_lt_mul'' h1 h2
  have := log2_lt_of h h3
  omega
theorem Bd.mul {A B : Int} {x y : F} (hx : Bd A x) (hy : Bd B y) (h1 : -1000 ≤ A + B) (h2 : A + B ≤ 900) : Bd (A + B + 2) (fop .mul .f64 x y) := by
  intro c hc
  cases x with
  | none => cases hc
  | some a =>
    cases y with
    | none => cases hc
    | some b =>
      obtain ⟨s, m, i, r1, q1⟩ := hx a rfl
      obtain ⟨t, n, j, r2, q2⟩ := hy b rfl
      have e : fop .mul .f64 (some a) (some b) = some (double.nearest (s ^^ t) (m * n) (i + j)) := by
        show double.mul a b = _
        unfold Format.mul
        rw [r1, r2]; rfl
      rw [e] at hc
      obtain rfl := Option.some.inj hc
      obtain ⟨m', e', k1, k2⟩ := read_small (s := s ^^ t) (m := m * n) (p := i + j) (E := A + B + 1) (fun h => by
        have hm : m ≠ 0 := fun e => h (by rw [e, Nat.zero_mul])
        have hn : n ≠ 0 := fun e => h (by rw [e, Nat.mul_zero])
        have := log2_mul_le h
        have := q1 hm
        have := q2 hn
        omega) (by omega) (by omega)
      exact ⟨_, m', e', k1, fun h => by have := k2 h; omega⟩
theorem signed_le (s : Bool) (m k : Nat) : (signed s m k).natAbs = m * 2 ^ k := by
  unfold signed
  rw [Nat.shiftLeft_eq]
  cases s
  · rw [if_neg (by decide)]; exact Int.natAbs_natCast _
  · rw [if_pos rfl, Int.natAbs_neg]; exact Int.natAbs_natCast _
theorem shift_lt {m : Nat} {i base A : Int} (hb : base ≤ i) (h : m ≠ 0 → i + (m.log2 : Int) ≤ A) : m * 2 ^ (i - base).toNat < 2 ^ (A + 1 - base).toNat := by
  by_cases hm : m = 0
  · subst hm; rw [Nat.zero_mul]; exact Nat.two_pow_pos _
  · have h1 : m < 2 ^ (m.log2 + 1) := Nat.lt_log2_self
    have h2 : m * 2 ^ (i - base).toNat < 2 ^ (m.log2 + 1) * 2 ^ (i - base).toNat := Nat.mul_lt_mul_of_pos_right h1 (Nat.two_pow_pos _)
    rw [← Nat.pow_add] at h2
    have := h hm
    exact Nat.lt_of_lt_of_le h2 (Nat.pow_le_pow_right (by decide) (by omega))
theorem sum_bd {s t : Bool} {m n : Nat} {i j A : Int} (h1 : m ≠ 0 → i + (m.log2 : Int) ≤ A) (h2 : n ≠ 0 → j + (n.log2 : Int) ≤ A) :
    ∃ sg M, (Datum.number s m i).sum (.number t n j) = some (.number sg M (min i j)) ∧ (M ≠ 0 → min i j + (M.log2 : Int) ≤ A + 1) := by
  refine ⟨_, _, rfl, fun h0 => ?_⟩
  have a1 := shift_lt (base := min i j) (by omega) h1
  have a2 := shift_lt (base := min i j) (by omega) h2
  have b1 := signed_le s m (i - min i j).toNat
  have b2 := signed_le t n (j - min i j).toNat
  generalize hM : (signed s m (i - min i j).toNat + signed t n (j - min i j).toNat).natAbs = M at h0
  have hle : M ≤ m * 2 ^ (i - min i j).toNat + n * 2 ^ (j - min i j).toNat := by
    rw [← hM, ← b1, ← b2]; exact Int.natAbs_add_le _ _
  have hlt : M < 2 ^ ((A + 1 - min i j).toNat + 1) := by rw [Nat.pow_succ]; omega
  have hl := log2_lt_of h0 hlt
  have hmn : m ≠ 0 ∨ n ≠ 0 := by
    by_cases hm : m = 0
    · right; intro hn; subst hm; subst hn; simp at hle; exact h0 hle
    · exact .inl hm
  have : min i j ≤ A + 1 := by
    rcases hmn with h | h
    · have := h1 h; omega
    · have := h2 h; omega
  omega
theorem sum_write {A : Int} {a b : Nat} {sb : Bool} {x : F} {f : Nat → Nat → Option Nat} (hx : Bd A (some a)) (hy : Bd A (some b)) (h1 : -1000 ≤ A) (h2 : A ≤ 900)
    (hf : f a b = ((double.read a).sum (if sb then (double.read b).opposite else double.read b)).map double.write) (he : x = f a b) : Bd (A + 2) x := by
  obtain ⟨s, m, i, r1, q1⟩ := hx a rfl
  obtain ⟨t, n, j, r2, q2⟩ := hy b rfl
  rw [r1, r2] at hf
  intro c hc
  have key : ∃ t', (if sb then (Datum.number t n j).opposite else .number t n j) = .number t' n j := by
    cases sb
    · exact ⟨t, rfl⟩
    · exact ⟨!t, rfl⟩
  obtain ⟨t', et⟩ := key
  rw [et] at hf
  obtain ⟨sg, M, e, k⟩ := sum_bd (s := s) (t := t') (i := i) (j := j) q1 q2
  rw [e] at hf
  have e2 : x = some (double.nearest sg M (min i j)) := he.trans hf
  rw [e2] at hc
  obtain rfl := Option.some.inj hc
  obtain ⟨m', e', k1, k2⟩ := read_small (s := sg) (m := M) (p := min i j) (E := A + 1) k (by omega) (by omega)
  exact ⟨_, m', e', k1, fun h => by have := k2 h; omega⟩
theorem Bd.add {A : Int} {x y : F} (hx : Bd A x) (hy : Bd A y) (h1 : -1000 ≤ A) (h2 : A ≤ 900) : Bd (A + 2) (fop .add .f64 x y) := by
  cases x with
  | none => intro c hc; cases hc
  | some a =>
    cases y with
    | none => intro c hc; cases hc
    | some b => exact sum_write (sb := false) (f := double.add) hx hy h1 h2 rfl rfl
theorem Bd.sub {A : Int} {x y : F} (hx : Bd A x) (hy : Bd A y) (h1 : -1000 ≤ A) (h2 : A ≤ 900) : Bd (A + 2) (fop .sub .f64 x y) := by
  cases x with
  | none => intro c hc; cases hc
  | some a =>
    cases y with
    | none => intro c hc; cases hc
    | some b => exact sum_write (sb := true) (f := double.sub) hx hy h1 h2 rfl rfl
theorem quo_core {s t : Bool} {m n : Nat} {i j E : Int} (hn : n ≠ 0) (h : m ≠ 0 → (i + (m.log2 : Int)) - (j + (n.log2 : Int)) ≤ E) :
    ∃ v P, (Datum.number s m i).quotient 54 (.number t n j) = some (.number (s ^^ t) v P) ∧ (v ≠ 0 → P + (v.log2 : Int) ≤ E) := by
  unfold Datum.quotient
  simp only
  rw [if_neg hn]
  refine ⟨_, _, rfl, fun hv => ?_⟩
  by_cases hm : m = 0
  · subst hm
    exfalso
    apply hv
    simp
  · generalize hmore : 54 + n.log2 - m.log2 = more at hv
    have hX : n.log2 ≤ m.log2 + 1 + more := by omega
    have h1 : m < 2 ^ (m.log2 + 1) := Nat.lt_log2_self
    have h2 : m <<< more < 2 ^ (m.log2 + 1 + more) := by
      rw [Nat.shiftLeft_eq, Nat.pow_add]
      exact Nat.mul_lt_mul_of_pos_right h1 (Nat.two_pow_pos _)
    have h3 : m <<< more / n < 2 ^ (m.log2 + 1 + more - n.log2) := by
      rw [Nat.div_lt_iff_lt_mul (by omega)]
      refine Nat.lt_of_lt_of_le h2 ?_
      have h4 := Nat.log2_self_le hn
      calc 2 ^ (m.log2 + 1 + more) = 2 ^ (m.log2 + 1 + more - n.log2) * 2 ^ n.log2 := by rw [← Nat.pow_add]; congr 1; omega
        _ ≤ 2 ^ (m.log2 + 1 + more - n.log2) * n := Nat.mul_le_mul_left _ h4
    have hbit : (m <<< more % n != 0).toNat ≤ 1 := Bool.toNat_le _
    have h5 : 2 * (m <<< more / n) + (m <<< more % n != 0).toNat < 2 ^ (m.log2 + 1 + more - n.log2 + 1) := by rw [Nat.pow_succ]; omega
    have h6 := log2_lt_of hv h5
    have := h hm
    omega
theorem Bd.quo {A L : Int} {x y : F} (hx : Bd A x) (hy : Lo L y) (h1 : -1000 ≤ A - L) (h2 : A - L ≤ 900) : Bd (A - L + 1) (fop .quo .f64 x y) := by
  intro c hc
  cases x with
  | none => cases hc
  | some a =>
    cases y with
    | none => cases hc
    | some b =>
      obtain ⟨s, m, i, r1, q1⟩ := hx a rfl
      obtain ⟨t, n, j, r2, hn, q2⟩ := hy b rfl
      obtain ⟨v, P, e, k⟩ := quo_core (s := s) (t := t) (m := m) (n := n) (i := i) (j := j) (E := A - L) hn (fun h => by have := q1 h; omega)
      have e : fop .quo .f64 (some a) (some b) = some (double.nearest (s ^^ t) v P) := by
        show double.div a b = _
        unfold Format.div
        rw [r1, r2]
        show ((Datum.number s m i).quotient 54 (.number t n j)).map _ = _
        rw [e]; rfl
      rw [e] at hc
      obtain rfl := Option.some.inj hc
      obtain ⟨m', e', k1, k2⟩ := read_small (s := s ^^ t) (m := v) (p := P) (E := A - L) k (by omega) (by omega)
      exact ⟨_, m', e', k1, k2⟩
/-- The quotient by what is not less. -/
theorem quo_le {a b m n : Nat} {i j : Int} (r1 : double.read a = .number false m i) (r2 : double.read b = .number false n j) (h : AM.flt .f64 (some b) (some a) = false) : Bd 1 (fop .quo .f64 (some a) (some b)) := by
  have ho : (double.order b a == some .lt) = false := h
  unfold Format.order at ho
  rw [r1, r2] at ho
  simp only [Datum.order] at ho
  have s1 : ∀ (m k : Nat), signed false m k = ((m * 2 ^ k : Nat) : Int) := fun m k => by unfold signed; rw [if_neg (by decide), Nat.shiftLeft_eq]
  rw [s1, s1] at ho
  have hle : m * 2 ^ (i - min j i).toNat ≤ n * 2 ^ (j - min j i).toNat := by
    rcases Nat.lt_or_ge (n * 2 ^ (j - min j i).toNat) (m * 2 ^ (i - min j i).toNat) with hlt | hge
    · exfalso
      have : compare ((n * 2 ^ (j - min j i).toNat : Nat) : Int) ((m * 2 ^ (i - min j i).toNat : Nat) : Int) = .lt := by rw [Int.compare_eq_lt]; exact Int.ofNat_lt.2 hlt
      rw [this] at ho
      cases ho
    · exact hge
  intro c hc
  by_cases hn : n = 0
  · subst hn
    rw [Nat.zero_mul] at hle
    have hm : m = 0 := by
      rcases Nat.mul_eq_zero.1 (Nat.le_zero.1 hle) with h | h
      · exact h
      · exact absurd h (Nat.ne_of_gt (Nat.two_pow_pos _))
    subst hm
    have e : fop .quo .f64 (some a) (some b) = none := by
      show double.div a b = _
      unfold Format.div
      rw [r1, r2]; rfl
    rw [e] at hc; cases hc
  · obtain ⟨v, P, e, k⟩ := quo_core (s := false) (t := false) (m := m) (n := n) (i := i) (j := j) (E := 0) hn (fun hm => by
      have hp : m * 2 ^ (i - min j i).toNat ≠ 0 := Nat.mul_ne_zero hm (Nat.ne_of_gt (Nat.two_pow_pos _))
      have h1 : (m * 2 ^ (i - min j i).toNat).log2 ≤ (n * 2 ^ (j - min j i).toNat).log2 := by
        have hq : n * 2 ^ (j - min j i).toNat ≠ 0 := Nat.mul_ne_zero hn (Nat.ne_of_gt (Nat.two_pow_pos _))
        rw [Nat.le_log2 hq]
        exact Nat.le_trans (Nat.log2_self_le hp) hle
      rw [log2_mul_pow hm, log2_mul_pow hn] at h1
      omega)
    have e : fop .quo .f64 (some a) (some b) = some (double.nearest false v P) := by
      show double.div a b = _
      unfold Format.div
      rw [r1, r2]
      show ((Datum.number false m i).quotient 54 (.number false n j)).map _ = _
      rw [e]; rfl
    rw [e] at hc
    obtain rfl := Option.some.inj hc
    obtain ⟨m', e', k1, k2⟩ := read_small (s := false) (m := v) (p := P) (E := 0) k (by omega) (by omega)
    exact ⟨_, m', e', k1, k2⟩
theorem Bd.sqrt {A : Int} {x : F} (hx : Bd A x) (h1 : 0 ≤ A) (h2 : A ≤ 900) : Nn (A + 1) (fsqrt x) := by
  intro c hc
  cases x with
  | none => cases hc
  | some a =>
    obtain ⟨s, m, i, r1, q1⟩ := hx a rfl
    have e0 : fsqrt (some a) = ((Datum.number s m i).root 54).map double.write := by
      show double.sqrt a = _
      unfold Format.sqrt
      rw [r1]; rfl
    rw [e0] at hc
    unfold Datum.root at hc
    dsimp only at hc
    by_cases hm : m = 0
    · rw [if_pos hm] at hc
      obtain rfl := Option.some.inj hc
      subst hm
      obtain ⟨m', e', k1, k2⟩ := read_small (s := s) (m := 0) (p := i) (E := A) (fun h => absurd rfl h) (by omega) (by omega)
      have z : double.nearest s 0 i = double.word s 0 := by unfold Format.nearest; rw [if_pos rfl]
      have k3 : double.read (double.word s 0) = .number s 0 (-1074) := by cases s <;> rfl
      refine ⟨s, 0, -1074, ?_, fun h => absurd rfl h, fun h => absurd rfl h⟩
      show double.read (double.nearest s 0 i) = _
      rw [z, k3]
    · rw [if_neg hm] at hc
      cases s with
      | true => rw [if_pos rfl] at hc; cases hc
      | false =>
        rw [if_neg (by decide)] at hc
        generalize hmore : 2 * 54 - m.log2 + ((i - ((2 * 54 - m.log2 : Nat) : Int)) % 2).toNat = more at hc
        have hln : (m <<< more).log2 = m.log2 + more := by rw [Nat.shiftLeft_eq, log2_mul_pow hm]
        have hwh := rootFrom_lt (m <<< more) ((m <<< more).log2 / 2 + 1) 0
        generalize Datum.rootFrom (m <<< more) ((m <<< more).log2 / 2 + 1) 0 = W at hwh hc
        rw [hln] at hwh
        have hbit : (W * W != m <<< more).toNat ≤ 1 := Bool.toNat_le _
        generalize hv : 2 * W + (W * W != m <<< more).toNat = v at hc
        have hvl : v < 2 ^ ((m.log2 + more) / 2 + 1 + 1) := by rw [Nat.pow_succ]; omega
        obtain rfl := Option.some.inj hc
        obtain ⟨m', e', k1, k2⟩ := read_small (s := false) (m := v) (p := (i - (more : Int)) / 2 - 1) (E := A) (fun h0 => by
          have := log2_lt_of h0 hvl
          have := q1 hm
          omega) (by omega) (by omega)
        exact ⟨false, m', e', k1, k2, fun _ => rfl⟩
theorem word_inj {s : Bool} {r X : Nat} (hr : r < double.signWeight) (hX : X < double.signWeight) (h : double.word s r = double.word s X) : r = X := by
  have q1 := (wneg_word double s hr).2
  have q2 := (wneg_word double s hX).2
  rw [h] at q1
  exact q1.symm.trans q2
theorem cut_big {s : Bool} {m : Nat} (hm : m ≠ 0) : 4503599627370496 ≤ Toward.even.cut s (m <<< (52 - m.log2)) (m.log2 - 52) := by
  have h3 := Nat.log2_self_le hm
  have h52 : (4503599627370496 : Nat) = 2 ^ 52 := by decide
  rw [h52]
  rcases Nat.le_total m.log2 52 with hle | hle
  · have e3 : m.log2 - 52 = 0 := by omega
    rw [e3, Nat.shiftLeft_eq]
    have hc := cut_mul s (m * 2 ^ (52 - m.log2)) 0
    rw [Nat.pow_zero, Nat.mul_one] at hc
    rw [hc]
    have := Nat.mul_le_mul_right (2 ^ (52 - m.log2)) h3
    rw [← Nat.pow_add, show m.log2 + (52 - m.log2) = 52 from by omega] at this
    exact this
  · have e3 : 52 - m.log2 = 0 := by omega
    rw [e3, Nat.shiftLeft_zero]
    unfold Toward.cut
    dsimp only
    rw [show min (m.log2 - 52) (m.log2 + 2) = m.log2 - 52 from by omega, Nat.one_shiftLeft]
    refine Nat.le_trans ?_ (Nat.le_add_right _ _)
    rw [Nat.le_div_iff_mul_le (Nat.two_pow_pos _), ← Nat.pow_add]
    exact Nat.le_trans (Nat.pow_le_pow_right (by decide) (by omega)) h3
theorem near_big {s : Bool} {m : Nat} {p : Int} (hm : m ≠ 0) (h1 : 0 ≤ p + (m.log2 : Int)) : ∃ X, double.nearest s m p = double.word s X ∧ 1023 * 4503599627370496 ≤ X ∧ X ≤ 9218868437227405312 := by
  have hbn : double.binade = 4503599627370496 := rfl
  have hl : double.leastPlace = -1074 := rfl
  have hi : double.infRung = 9218868437227405312 := rfl
  have hf : double.fractionBits = 52 := rfl
  have hlast : max (p + (m.log2 : Int) - ((52 : Nat) : Int)) (-1074) = p + (m.log2 : Int) - 52 := by omega
  have e1 : (p - (p + (m.log2 : Int) - 52)).toNat = 52 - m.log2 := by omega
  have e2 : (p + (m.log2 : Int) - 52 - p).toNat = m.log2 - 52 := by omega
  have hk := cut_big (s := s) hm
  have hA : 1022 ≤ (p + (m.log2 : Int) - 52 - -1074).toNat := by omega
  generalize hkk : Toward.even.cut s (m <<< (52 - m.log2)) (m.log2 - 52) = kept at hk
  generalize hAA : (p + (m.log2 : Int) - 52 - -1074).toNat = A at hA
  refine ⟨min (A * 4503599627370496 + kept) 9218868437227405312, ?_, ?_, Nat.min_le_right _ _⟩
  · unfold Format.nearest
    rw [if_neg hm]
    simp only [hf, hl, hbn, hi]
    rw [hlast, e1, e2, hkk, hAA]
  · have hAm : 1022 * 4503599627370496 ≤ A * 4503599627370496 := Nat.mul_le_mul_right _ hA
    exact Nat.le_min.2 ⟨Nat.le_trans (show 1023 * 4503599627370496 ≤ 1022 * 4503599627370496 + 4503599627370496 by decide) (Nat.add_le_add hAm hk), by decide⟩
theorem read_big {s : Bool} {m : Nat} {p : Int} (hm : m ≠ 0) (h1 : 0 ≤ p + (m.log2 : Int)) (h2 : p + (m.log2 : Int) ≤ 900) : ∃ m' e', double.read (double.nearest s m p) = .number s m' e' ∧ m' ≠ 0 ∧ 0 ≤ e' + (m'.log2 : Int) := by
  have hbn : double.binade = 4503599627370496 := rfl
  have hl : double.leastPlace = -1074 := rfl
  have hi : double.infRung = 9218868437227405312 := rfl
  have hf : double.fractionBits = 52 := rfl
  have hsw : double.signWeight = 9223372036854775808 := rfl
  have hKK : ((p + (m.log2 : Int) + 1022).toNat + 2) * 4503599627370496 ≤ 2024 * 4503599627370496 := Nat.mul_le_mul_right _ (by omega)
  have hK : ((p + (m.log2 : Int) + 1022).toNat + 2) * double.binade ≤ double.infRung := by
    rw [hbn, hi]
    exact Nat.le_trans hKK (by decide)
  have hK2 : p + (m.log2 : Int) ≤ double.leastPlace + (double.fractionBits : Int) + ((p + (m.log2 : Int) + 1022).toNat : Int) := by rw [hl, hf]; omega
  obtain ⟨X, n3, n4, n5⟩ := near_big (s := s) hm h1
  obtain ⟨r, n1, n2⟩ := nearest_small double s (m := m) (p := p) (K := (p + (m.log2 : Int) + 1022).toNat) hm hK2 hK
  rw [hbn] at n2
  have hlt : r < 9218868437227405312 := Nat.lt_of_le_of_lt (Nat.le_trans n2 hKK) (by decide)
  have e : r = X := word_inj (s := s) (by rw [hsw]; exact Nat.lt_trans hlt (by decide)) (by rw [hsw]; exact Nat.lt_of_le_of_lt n5 (by decide)) (n1.symm.trans n3)
  subst e
  rw [n3]
  clear n3 n1
  rw [readWord double s (r := r) (by rw [hi]; exact hlt), if_neg (by rw [hbn]; omega)]
  have hlog : 52 ≤ (4503599627370496 + r % 4503599627370496).log2 := by
    rw [Nat.le_log2 (by omega)]
    have h52 : (2 : Nat) ^ 52 = 4503599627370496 := by decide
    rw [h52]
    omega
  have hd : 1023 ≤ r / 4503599627370496 := by rw [Nat.le_div_iff_mul_le (by decide)]; omega
  rw [hl, hbn]
  exact ⟨_, _, rfl, by omega, by omega⟩
/-- One and what is not below zero. -/
theorem one_add {A : Int} {x : F} (hx : Nn A x) (h1 : 0 ≤ A) (h2 : A ≤ 800) : Lo 0 (fop .add .f64 (some 4607182418800017408) x) := by
  intro c hc
  cases x with
  | none => cases hc
  | some b =>
    obtain ⟨s, m, e, r2, q1, q2⟩ := hx b rfl
    have r1 : double.read 4607182418800017408 = .number false 4503599627370496 (-52) := by decide +kernel
    have s1 : ∀ (m k : Nat), signed false m k = ((m * 2 ^ k : Nat) : Int) := fun m k => by unfold signed; rw [if_neg (by decide), Nat.shiftLeft_eq]
    have s2 : signed s m (e - min (-52) e).toNat = ((m * 2 ^ (e - min (-52) e).toNat : Nat) : Int) := by
      by_cases hm : m = 0
      · subst hm
        have := signed_le s 0 (e - min (-52) e).toNat
        rw [Nat.zero_mul] at this ⊢
        omega
      · rw [q2 hm, s1]
    have hp : 0 < 4503599627370496 * 2 ^ (-52 - min (-52) e).toNat := Nat.mul_pos (by decide) (Nat.two_pow_pos _)
    have es : (Datum.number false 4503599627370496 (-52)).sum (.number s m e) = some (.number false (4503599627370496 * 2 ^ (-52 - min (-52) e).toNat + m * 2 ^ (e - min (-52) e).toNat) (min (-52) e)) := by
      simp only [Datum.sum]
      rw [s1, s2, if_neg (by omega), decide_eq_false (by omega)]
      congr 2
    have hlow : (4503599627370496 * 2 ^ (-52 - min (-52) e).toNat).log2 = 52 + (-52 - min (-52) e).toNat := by
      rw [log2_mul_pow (by decide)]
      rw [show (4503599627370496 : Nat).log2 = 52 from by decide +kernel]
    generalize hM : 4503599627370496 * 2 ^ (-52 - min (-52) e).toNat + m * 2 ^ (e - min (-52) e).toNat = M at es
    have hM0 : M ≠ 0 := by omega
    have hlo : 52 + (-52 - min (-52) e).toNat ≤ M.log2 := by
      rw [← hlow, Nat.le_log2 hM0]
      exact Nat.le_trans (Nat.log2_self_le (by omega)) (by omega)
    have hhi := (sum_bd (s := false) (t := s) (m := 4503599627370496) (n := m) (i := -52) (j := e) (A := A) (fun _ => by rw [show (4503599627370496 : Nat).log2 = 52 from by decide +kernel]; omega) q1)
    obtain ⟨sg, M', f1, f2⟩ := hhi
    rw [es] at f1
    have f1 := Option.some.inj f1
    injection f1 with _ f3 _
    subst f3
    have hup := f2 hM0
    have ew : fop .add .f64 (some 4607182418800017408) (some b) = some (double.nearest false M (min (-52) e)) := by
      show double.add 4607182418800017408 b = _
      unfold Format.add
      rw [r1, r2, es]; rfl
    rw [ew] at hc
    obtain rfl := Option.some.inj hc
    obtain ⟨m', e', k1, k2, k3⟩ := read_big (s := false) (m := M) (p := min (-52) e) hM0 (by omega) (by omega)
    exact ⟨_, m', e', k1, k2, k3⟩
theorem Bd.neg {A : Int} {x : F} (hx : Bd A x) (hf : FOk .f64 x) : Bd A (fneg .f64 x) := by
  intro c hc
  cases x with
  | none => cases hc
  | some b =>
    obtain ⟨s, m, e, r1, q1⟩ := hx b rfl
    obtain rfl := Option.some.inj hc
    have hb : b < 2 ^ (63 + 1) := hf.some.1
    have hw : (b ^^^ 2 ^ 63) % 2 ^ 63 = b % 2 ^ 63 := by
      apply Nat.eq_of_testBit_eq
      intro k
      rw [Nat.testBit_mod_two_pow, Nat.testBit_mod_two_pow, Nat.testBit_xor, Nat.testBit_two_pow]
      by_cases hk : k < 63
      · simp [hk, show ¬ 63 = k from by omega]
      · simp [hk]
    have e0 : Op.negFloat .f64 b = b ^^^ 2 ^ 63 := rfl
    rw [e0]
    unfold Format.read at r1 ⊢
    have hs : double.signWeight = 2 ^ 63 := rfl
    simp only [hs] at r1 ⊢
    rw [hw]
    by_cases c1 : b % 2 ^ 63 < double.binade
    · rw [if_pos c1] at r1 ⊢
      injection r1 with _ a1 a2
      exact ⟨_, _, _, rfl, by rw [a1, a2]; exact q1⟩
    · rw [if_neg c1] at r1 ⊢
      by_cases c2 : b % 2 ^ 63 < double.infRung
      · rw [if_pos c2] at r1 ⊢
        injection r1 with _ a1 a2
        exact ⟨_, _, _, rfl, by rw [a1, a2]; exact q1⟩
      · rw [if_neg c2] at r1
        split at r1 <;> cases r1
theorem narrow_bd {x : F} (h : Bd 126 x) : ∃ z, fnarrow x = some z := by
  cases x with
  | none => exact ⟨_, rfl⟩
  | some c =>
    obtain ⟨s, m, e, s1, s2⟩ := h c rfl
    have hfn : fnarrow (some c) = if (single.read (single.write (.number s m e))).isInfinity then none else some (some (single.write (.number s m e))) := by
      have : FloatKind.f64.decode c = .number s m e := s1
      simp only [fnarrow]
      rw [this]; rfl
    rw [hfn]
    have hnot : (single.read (single.write (.number s m e))).isInfinity = false := by
      show (single.read (single.nearest s m e)).isInfinity = false
      have hbn : single.binade = 8388608 := rfl
      have hi : single.infRung = 2139095040 := rfl
      have hz : ∀ r, r < 2139095040 → (single.read (single.word s r)).isInfinity = false := by
        intro r hr
        rw [readWord single s (r := r) (by rw [hi]; exact hr)]
        split <;> rfl
      by_cases hm0 : m = 0
      · subst hm0
        have : single.nearest s 0 e = single.word s 0 := by unfold Format.nearest; rw [if_pos rfl]
        rw [this]; exact hz 0 (by decide)
      · obtain ⟨r, n1, n2⟩ := nearest_small single s (m := m) (p := e) (K := 252) hm0 (by
          have hl : single.leastPlace = -149 := rfl
          have hf : single.fractionBits = 23 := rfl
          have := s2 hm0
          rw [hl, hf]; omega) (by rw [hbn, hi]; decide)
        rw [hbn] at n2
        rw [n1]; exact hz r (by omega)
    rw [hnot]
    exact ⟨_, rfl⟩
/-- The absolute value of a finite single-precision number, widened. -/
theorem abs_read {b : Nat} (h : FOk .f32 (some b)) (hf : fin32 (some b) = true) : ∃ a m e, fabs (fwiden (some b)) = some a ∧ double.read a = .number false m e := by
  have hn := h.some.2
  have hfab : fabs (fwiden (some b)) = some (double.write (single.read b) % 9223372036854775808) := rfl
  refine ⟨double.write (single.read b) % 9223372036854775808, ?_⟩
  rcases read_cases (f := single) (fmt_ok .f32) hn with ⟨g1, g2⟩ | ⟨g1, g2⟩
  · obtain ⟨m, a, e1, e2⟩ := read_fin single g1
    by_cases h0 : m = 0
    · subst h0
      have e3 : double.write (single.read b) % 9223372036854775808 = 0 := by
        rw [e1]
        show double.nearest (wneg single b) 0 _ % _ = 0
        unfold Format.nearest
        rw [if_pos rfl]
        cases wneg single b <;> rfl
      exact ⟨_, _, hfab, by rw [e3]; rfl⟩
    · obtain ⟨k1, k2, k3⟩ := single_num e1
      obtain ⟨R, r1, r2, r3, r4⟩ := widen_num (s := wneg single b) k1 k2 k3 h0
      have e3 : double.write (single.read b) % 9223372036854775808 = R := by
        rw [e1]
        show double.nearest _ _ _ % _ = R
        rw [r1]
        have := (wneg_word double (wneg single b) (r := R) (Nat.lt_trans r2 (double.infRung_lt))).2
        exact this
      have e4 := r4 false
      rw [word_false] at e4
      exact ⟨_, _, hfab, by rw [e3]; exact e4⟩
  · exfalso
    have : fin32 (some b) = false := by
      unfold fin32
      show (!(single.read b).isInfinity) = false
      rw [g2]; rfl
    rw [this] at hf; cases hf
theorem widen_narrow {c : F} (h : FOk .f32 c) : fnarrow (fwiden c) = some c := by
  cases c with
  | none => rfl
  | some b =>
    have hn := h.some.2
    have hw : b < 2 ^ single.width := h.some.1
    have eta : single.word (wneg single b) (wrung single b) = b := by
      rw [width_weight] at hw
      exact (word_eta single hw).symm
    have hfw : fwiden (some b) = some (double.write (single.read b)) := rfl
    rw [hfw]
    have key : ∀ {R : Nat} {d : Datum}, double.read R = d → (∀ s t, d ≠ .nan s t) → fnarrow (some R) = match d with
        | .nan _ _ => some none
        | .infinity s => some (some (single.write (.infinity s)))
        | .number s m e => if (single.read (single.write (.number s m e))).isInfinity then none else some (some (single.write (.number s m e))) := by
      intro R d hd _
      have : FloatKind.f64.decode R = d := hd
      simp only [fnarrow]
      rw [this]; rfl
    rcases read_cases (f := single) (fmt_ok .f32) hn with ⟨g1, g2⟩ | ⟨g1, g2⟩
    · obtain ⟨m, a, e1, e2⟩ := read_fin single g1
      have hfin : ∀ {M : Nat} {P : Int} {bb cc : Nat}, P + (bb : Int) = single.leastPlace + (cc : Int) → M * 2 ^ cc = rval single (wrung single b) * 2 ^ bb →
          (if (single.read (single.write (.number (wneg single b) M P))).isInfinity then none else some (some (single.write (.number (wneg single b) M P)))) = some (some b) := by
        intro M P bb cc h1 h2
        have hne : single.write (.number (wneg single b) M P) = b := by
          show single.nearest (wneg single b) M P = _
          rw [nearest_exact single _ (Nat.le_of_lt g1) h1 h2, eta]
        rw [hne]
        obtain ⟨m2, a2, e3, _⟩ := read_fin single (w := b) g1
        rw [e3]
        rfl
      by_cases h0 : m = 0
      · subst h0
        have e3 : double.write (single.read b) = double.word (wneg single b) 0 := by
          rw [e1]
          show double.nearest (wneg single b) 0 _ = _
          unfold Format.nearest
          rw [if_pos rfl]
        rw [e3, key (d := .number (wneg single b) 0 (-1074)) (by cases wneg single b <;> rfl) (by intro s t h; cases h)]
        rw [Nat.zero_mul] at e2
        obtain ⟨bb, hbb⟩ : ∃ bb : Nat, (-1074 : Int) + (bb : Int) = single.leastPlace + ((0 : Nat) : Int) := ⟨925, rfl⟩
        exact hfin (bb := bb) (cc := 0) hbb (by rw [← e2]; simp)
      · obtain ⟨k1, k2, k3⟩ := single_num e1
        obtain ⟨R, r1, r2, r3, r4⟩ := widen_num (s := wneg single b) k1 k2 k3 h0
        have e3 : double.write (single.read b) = double.word (wneg single b) R := by
          rw [e1]
          show double.nearest _ _ _ = _
          rw [r1]
        have hlog : m.log2 < 24 := log2_lt_of h0 k1
        rw [e3, key (r4 (wneg single b)) (by intro s t h; cases h)]
        refine hfin (bb := 52 - m.log2) (cc := a) (by omega) ?_
        rw [← e2, Nat.mul_assoc, Nat.mul_assoc, Nat.mul_comm (2 ^ (52 - m.log2))]
    · have e3 : double.write (single.read b) = double.word (wneg single b) double.infRung := by
        exact congrArg double.write g2
      rw [e3, key (d := .infinity (wneg single b)) (by cases wneg single b <;> rfl) (by intro s t h; cases h)]
      show some (some (single.word (wneg single b) single.infRung)) = some (some b)
      rw [← g1, eta]
end Go.AM
