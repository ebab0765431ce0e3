/- The abstract layer: made slices, appends, whole-number bits, complex parts, calls with own objects handed over, in the forms that generated proofs use. -/
import Derived.Test.YtmgjiomflefedaaAmGen5
namespace Go.AM
section
variable {P : Program} {N : Nat} {o : Oper} {τ : List (Nat × AV)} {Γ : List Ob} {Q : PQ}

theorem TOp.fs_eq {r : AV} {fs fs' : List (Nat × List AV)} (h : TOp P o τ Γ r fs) (e : fs = fs') : TOp P o τ Γ r fs' := e ▸ h
def mkok (by_ : Nat) (n : Int) : Bool := decide (0 ≤ n) && decide (n < 9223372036854775808) && decide ((by_ : Int) * n ≤ 281474976710656)
theorem mk_lo {b : Nat} {n : Int} (h : mkok b n = true) : 0 ≤ n := by simp [mkok] at h; exact h.1.1
theorem mk_hi {b : Nat} {n : Int} (h : mkok b n = true) : n < 9223372036854775808 := by simp [mkok] at h; exact h.1.2
theorem mk_by {b : Nat} {n : Int} (h : mkok b n = true) : (b : Int) * n ≤ 281474976710656 := by simp [mkok] at h; exact h.2
theorem TOp.mkS {α : Type} {f : α → AV} {zv : α} {t e : TypeId} {x y : Operand} {n : Int} {z : Value} {I : TypeInfo} {by_ : Nat} (p : Nat) {g : Ob} (hp : Γ[p]? = some g) (ht : ∀ w, (underlying t).run P w = .ok (.slice e) w) (hi : ∀ w, (typeInfo e).run P w = .ok I w) (hby : I.bytes = by_) (hsz : ∀ w, (sizeOf e).run P w = .ok 1 w)
    (hz : ∀ w, (zeroValue e).run P w = .ok z w) (hzc : z.cells = #[z]) (hza : ∀ S μ, V S μ (f zv) z) (ho : o.op = .makeSlice t x y) (hx : ev τ x = .i64 n) (hy : ev τ y = .i64 n) (hm : mkok by_ n = true) :
    TOp P o τ Γ (.oref p (g.ver + 1) 0 n.toNat) [(p, (List.replicate n.toNat zv).map f)] := by
  rw [List.map_replicate]
  exact TOp.makeSlice_o p hp ht ⟨I, hi, hby⟩ hsz hz hzc hza ho hx hy (mk_lo hm) (mk_hi hm) (mk_by hm)
theorem LOp.fap {s : TypeId} {x : Operand} {f : Nat} {fs : Array Field} {fd : Field} {n : Nat} {l r : List AV} (hs : ∀ w, (underlying s).run P w = .ok (.struct fs) w) (hf : fs[f]? = some fd) (hn : ∀ w, (sizeOf fd.type).run P w = .ok (n + 1) w)
    (ho : o.op = .fieldAddr s x f) (hx : ev τ x = .ptr l) (hr : l.drop fd.offset = r) : LOp P o τ (.ptr r) := hr ▸ LOp.fieldAddr_ptr hs hf hn ho hx
theorem LOp.fao {s : TypeId} {x : Operand} {f : Nat} {fs : Array Field} {fd : Field} {n p ver off off' : Nat} (hs : ∀ w, (underlying s).run P w = .ok (.struct fs) w) (hf : fs[f]? = some fd) (hn : ∀ w, (sizeOf fd.type).run P w = .ok (n + 1) w)
    (ho : o.op = .fieldAddr s x f) (hx : ev τ x = .optr p ver off) (hr : off + fd.offset = off') : LOp P o τ (.optr p ver off') := hr ▸ LOp.fieldAddr_optr hs hf hn ho hx
theorem nz {n : Int} (h : (!decide (n = 0)) = true) : n ≠ 0 := by simpa using h
def apok (by_ n m : Nat) : Bool := decide ((n + m) * by_ ≤ 140737488355328) && decide (n + m ≤ 4611686018427387904)
theorem ap_by {b n m : Nat} (h : apok b n m = true) : (n + m) * b ≤ 140737488355328 := by simp [apok] at h; exact h.1
theorem ap_mx {b n m : Nat} (h : apok b n m = true) : n + m ≤ 4611686018427387904 := by simp [apok] at h; exact h.2
theorem app_len {α : Type} {a b : List α} {n m : Nat} (h : a.length = n) (k : b.length = m) : (a ++ b).length = n + m := by simp [h, k]
theorem ones_map {α : Type} {f : α → AV} (hf : ∀ x, (f x).one = true) {l : List α} : (l.map f).all AV.one = true := by
  induction l with
  | nil => rfl
  | cons a l ih => simp only [List.map_cons, List.all_cons, hf, Bool.true_and]; exact ih
theorem ROps.app {α : Type} {f : α → AV} {xs ys : List α} {all : Array Oper} {rest : List Oper} {t e : TypeId} {s x : Operand} {I : TypeInfo} {z : Value} {bytes : Nat} {p ver n m d : Nat} {Γ' : List Ob} (hw : wantT all τ o = some true)
    (ht : P.underlying t = some (.slice e)) (hI : P.info? e = some I) (hz : I.zero = some z) (hsz : I.size = 1) (hby : I.bytes = bytes) (hzs : z.cells.size = 1)
    (ho : o.op = .call { callee := .builtin .append, args := #[s, x], argTypes := #[t, t] }) (hd : o.dst = some d) (hN : Nat.blt d N = true) (hs : ev τ s = .oref p ver 0 n) (hp : Γ[p]? = some ⟨ver, some (xs.map f)⟩) (hl : xs.length = n) (hx : ReadAs Γ (ev τ x) m (ys.map f)) (hone : (ys.map f).all AV.one = true)
    (hb : (n + m) * bytes ≤ 140737488355328) (hmx : n + m ≤ 4611686018427387904) (hΓ : Γ.set p ⟨ver + 1, some ((xs ++ ys).map f)⟩ = Γ') (h : ROps P N all rest ((d, .oref p (ver + 1) 0 (n + m)) :: τ) Γ' Q) : ROps P N all (o :: rest) τ Γ Q := by
  refine ROps.op hw (ROp.append ht hI hz hsz hby hzs ho (by simp only [dstLt, hd]; simpa using hN) hs hp (by simpa using hl) hx hone hb hmx ?_)
  rw [hd, ← List.map_append, hΓ]; exact h
/-- Whole numbers' bits. -/
def ibit (op : BinOp) (k : IntKind) (m n : Int) : Int := match op with
  | .and => k.wrap (BitVec.ofInt 64 m &&& BitVec.ofInt 64 n).toNat
  | _ => 0

theorem LOp.real {k : FloatKind} {x : Operand} {tys : Array TypeId} {a b : F} (ho : o.op = .call { callee := .builtin .real, args := #[x], argTypes := tys }) (hx : ev τ x = .cx k a b) : LOp P o τ (.f k a) := by
  intro S μ ac h
  have k1 := opnd h (x := x) (by simp [ho, Op.operands, Call.operands]) hx
  simp only [V] at k1
  obtain ⟨u, v, k1, k2, k3⟩ := k1
  exact ⟨.float k u, fun w _ => by
    have e : ∀ t ty, Builtin.real_ t ty #[.complex k u v] = pure (.float k u) := fun _ _ => rfl
    simp [execOp, ho, resolve, invoke, builtin, k1, e], by simp only [V]; exact ⟨u, rfl, k2⟩⟩
theorem LOp.imag {k : FloatKind} {x : Operand} {tys : Array TypeId} {a b : F} (ho : o.op = .call { callee := .builtin .imag, args := #[x], argTypes := tys }) (hx : ev τ x = .cx k a b) : LOp P o τ (.f k b) := by
  intro S μ ac h
  have k1 := opnd h (x := x) (by simp [ho, Op.operands, Call.operands]) hx
  simp only [V] at k1
  obtain ⟨u, v, k1, k2, k3⟩ := k1
  exact ⟨.float k v, fun w _ => by
    have e : ∀ t ty, Builtin.imag_ t ty #[.complex k u v] = pure (.float k v) := fun _ _ => rfl
    simp [execOp, ho, resolve, invoke, builtin, k1, e], by simp only [V]; exact ⟨v, rfl, k3⟩⟩
theorem LOp.complex {k : FloatKind} {x y : Operand} {tys : Array TypeId} {a b : F} (ho : o.op = .call { callee := .builtin .complex, args := #[x, y], argTypes := tys }) (hx : OpF τ x k a) (hy : OpF τ y k b) : LOp P o τ (.cx k a b) := by
  intro S μ ac h
  obtain ⟨u, e1, f1⟩ := hx S μ ac (h x (by simp [ho, Op.operands, Call.operands]))
  obtain ⟨v, e2, f2⟩ := hy S μ ac (h y (by simp [ho, Op.operands, Call.operands]))
  exact ⟨.complex k u v, fun w _ => by
    have e : ∀ t ty, Builtin.complex_ t ty #[.float k u, .float k v] = (if k = k then pure (.complex k u v) else stuck "complex: parts of different kinds") := fun _ _ => rfl
    simp [execOp, ho, resolve, invoke, builtin, e1, e2, e], by simp only [V]; exact ⟨u, v, rfl, f1, f2⟩⟩

/-- Renaming leaves a list of plain elements. -/
theorem rens_f32 {σ : Nat → Nat × Nat} {l : List F} : AV.rens σ (l.map AV.f32) = l.map AV.f32 := (rens_map (fun _ => rfl)).symm
theorem rens_f64 {σ : Nat → Nat × Nat} {l : List F} : AV.rens σ (l.map AV.f64) = l.map AV.f64 := (rens_map (fun _ => rfl)).symm
theorem rens_i64 {σ : Nat → Nat × Nat} {l : List Int} : AV.rens σ (l.map AV.i64) = l.map AV.i64 := (rens_map (fun _ => rfl)).symm
theorem rens_ik {k : IntKind} {σ : Nat → Nat × Nat} {l : List Int} : AV.rens σ (l.map (AV.ik k)) = l.map (AV.ik k) := (rens_map (fun _ => rfl)).symm
theorem rens_str {σ : Nat → Nat × Nat} {l : List ByteArray} : AV.rens σ (l.map AV.str) = l.map AV.str := (rens_map (fun _ => rfl)).symm
theorem rens_cp {k : FloatKind} {σ : Nat → Nat × Nat} {l : List (F × F)} : AV.rens σ (l.map (AV.cp k)) = l.map (AV.cp k) := (rens_map (fun _ => rfl)).symm
def LiveL (Γ : List Ob) : List (Nat × Nat) → Prop
  | [] => True
  | p :: l => (∃ ver c, Γ[p.1]? = some ⟨ver, some c⟩) ∧ LiveL Γ l
theorem live_of : ∀ {sel : List (Nat × Nat)}, LiveL Γ sel → ∀ p ∈ sel, ∃ ver l, Γ[p.1]? = some ⟨ver, some l⟩
  | [], _, p, hp => by cases hp
  | q :: sel, h, p, hp => by
    rcases List.mem_cons.1 hp with e | hp
    · subst e; exact h.1
    · exact live_of h.2 p hp
def NewsL (Γ : List Ob) : List (Nat × Nat) → Prop
  | [] => True
  | p :: l => (∃ ver, Γ[p.1]? = some ⟨ver, none⟩ ∧ p.2 = ver + 1) ∧ NewsL Γ l
theorem news_of : ∀ {ns : List (Nat × Nat)}, NewsL Γ ns → ∀ p ∈ ns, ∃ ver, Γ[p.1]? = some ⟨ver, none⟩ ∧ p.2 = ver + 1
  | [], _, p, hp => by cases hp
  | q :: ns, h, p, hp => by
    rcases List.mem_cons.1 hp with e | hp
    · subst e; exact h.1
    · exact news_of h.2 p hp
theorem ROps.callO {all : Array Oper} {rest : List Oper} {d : Nat} {f : FuncId} {A args : List AV} {Γc Γc' Γ' : List Ob} {r r' : AV} (sel ns : List (Nat × Nat)) (hw : wantT all τ o = some true) (hc : CallAs P o τ f A) (hd : o.dst = some d) (hN : Nat.blt d N = true)
    (hsel : SelOk sel Γ Γc) (hlive : ∀ p ∈ sel, ∃ ver l, Γ[p.1]? = some ⟨ver, some l⟩) (hA : AV.rens (sigma sel) args = A) (hlt : AV.lts sel.length args = true) (hev : Ev P f args Γc r Γc') (hlen : Γc'.length = sel.length + ns.length)
    (hns : ∀ p ∈ ns, ∃ ver, Γ[p.1]? = some ⟨ver, none⟩ ∧ p.2 = ver + 1) (hnd : ((sel ++ ns).map (·.1)).Nodup) (hr : r.ren (sigma (sel ++ ns)) = r') (hΓ : backOb (sel ++ ns) Γc' Γ = Γ') (h : ROps P N all rest ((d, r') :: τ) Γ' Q) : ROps P N all (o :: rest) τ Γ Q :=
  ROps.op hw (ROp.call hc (by simp only [dstLt, hd]; simpa using hN) hsel hlive hA hlt hev hlen hns hnd (by rw [hd, hr, hΓ]; exact h))
theorem ROps.callO' {all : Array Oper} {rest : List Oper} {f : FuncId} {A args : List AV} {Γc Γc' Γ' : List Ob} {r : AV} (sel ns : List (Nat × Nat)) (hw : wantT all τ o = some true) (hc : CallAs P o τ f A) (hd : o.dst = none)
    (hsel : SelOk sel Γ Γc) (hlive : ∀ p ∈ sel, ∃ ver l, Γ[p.1]? = some ⟨ver, some l⟩) (hA : AV.rens (sigma sel) args = A) (hlt : AV.lts sel.length args = true) (hev : Ev P f args Γc r Γc') (hlen : Γc'.length = sel.length + ns.length)
    (hns : ∀ p ∈ ns, ∃ ver, Γ[p.1]? = some ⟨ver, none⟩ ∧ p.2 = ver + 1) (hnd : ((sel ++ ns).map (·.1)).Nodup) (hΓ : backOb (sel ++ ns) Γc' Γ = Γ') (h : ROps P N all rest τ Γ' Q) : ROps P N all (o :: rest) τ Γ Q :=
  ROps.op hw (ROp.call hc (by simp only [dstLt, hd]) hsel hlive hA hlt hev hlen hns hnd (by rw [hd, hΓ]; exact h))

/-! calls whose new objects are settled at once -/
theorem ALes.vp : ∀ {l m : List AV}, ALes l m → ∀ {S : Snap} {μ : List Mu} {vs : List Value}, VP S μ l vs → VP S μ m vs
  | [], [], _, _, _, _, _ => by simp only [VP]
  | a :: l, b :: m, k, S, μ, vs, h => by
    cases vs with
    | nil => simp only [VP] at h
    | cons v vs =>
      simp only [VP] at h ⊢
      exact ⟨k.1 _ _ _ h.1, ALes.vp k.2 h.2⟩
  | [], _ :: _, k, _, _, _, _ => k.elim
  | _ :: _, [], k, _, _, _, _ => k.elim
theorem ALes.nil : ALes [] [] := trivial
theorem ALes.cons {a b : AV} {l m : List AV} (h : ALe a b) (k : ALes l m) : ALes (a :: l) (b :: m) := ⟨h, k⟩
theorem ALe.agg {l m : List AV} (h : ALes l m) : ALe (.agg l) (.agg m) := by
  intro S μ v hv
  simp only [V] at hv ⊢
  obtain ⟨cs, h1, h2⟩ := hv
  exact ⟨cs, h1, h.vl h2⟩
theorem ALe.ptrs {l m : List AV} (h : ALes l m) : ALe (.ptr l) (.ptr m) := by
  intro S μ v hv
  simp only [V] at hv ⊢
  obtain ⟨b, off, cs, h1, h2, h3⟩ := hv
  exact ⟨b, off, cs, h1, h2, h.vp h3⟩
theorem CallAs.le {f : FuncId} {A A' : List AV} (h : CallAs P o τ f A) (e : ALes A A') : CallAs P o τ f A' := fun S μ a w hx => (h S μ a w hx).elim fun vs hv => ⟨vs, hv.1, e.vl hv.2⟩
theorem lts_nil {k : Nat} : AV.lts k [] = true := rfl
theorem lts_cons {k : Nat} {a : AV} {l : List AV} (h : a.lt k = true) (h2 : AV.lts k l = true) : AV.lts k (a :: l) = true := by simp only [AV.lts, h, h2, Bool.and_self]
theorem lt_agg {k : Nat} {l : List AV} (h : AV.lts k l = true) : (AV.agg l).lt k = true := by simp only [AV.lt, h]
theorem lt_tup {k : Nat} {l : List AV} (h : AV.lts k l = true) : (AV.tup l).lt k = true := by simp only [AV.lt, h]
theorem lt_ptr {k : Nat} {l : List AV} (h : AV.lts k l = true) : (AV.ptr l).lt k = true := by simp only [AV.lt, h]
theorem lt_fn {k : Nat} {g : Fn} {p q : List AV} (h : AV.lts k p = true) (h2 : AV.lts k q = true) : (AV.fn g p q).lt k = true := by simp only [AV.lt, h, h2, Bool.and_self]
theorem lt_sl {α : Type} {f : α → AV} (hf : ∀ x, (f x).lt 0 = true) {n : Nat} {l : List α} : (AV.sl n (l.map f)).lt 0 = true := by simp only [AV.lt, lts0_map hf]
theorem TOp.callS {f : FuncId} {A A' : List AV} {r r' : AV} {Γ' : List Ob} (hc : CallAs P o τ f A) (hA : ALes A A') (hA0 : AV.lts 0 A' = true) (hr : r'.lt 0 = true) (hev : Ev P f A' [] r Γ') (hb : Bor Γ' r r') : TOp P o τ Γ r' [] :=
  TOp.call (hc.le hA) hA0 hr (hev.settle hb)

section draw
variable {all : Array Oper} {rest : List Oper} {τ' : List (Nat × AV)} {n : Nat} {r : AV} {fs : List (Nat × List AV)} {fss : List (List (Nat × List AV))} {bs : List Bool}
theorem TR.l {d : Nat} (hw : wantT all τ o = some true) (hd : o.dst = some d) (hl : LOp P o τ r) (h : TRun P all Γ (List.take n rest) ((d, r) :: τ) τ' fss bs) : TRun P all Γ (List.take (n + 1) (o :: rest)) τ τ' ([] :: fss) (false :: bs) := TRun.l hw hd hl h
theorem TR.d {d : Nat} (hw : wantT all τ o = some true) (hd : o.dst = some d) (ht : TOp P o τ Γ r fs) (h : TRun P all Γ (List.take n rest) ((d, r) :: τ) τ' fss bs) : TRun P all Γ (List.take (n + 1) (o :: rest)) τ τ' (fs :: fss) (false :: bs) := TRun.d hw hd ht h
theorem TR.loose {d : Nat} (hw : wantT all τ o = some true) (hd : o.dst = some d) (hl : LOp P o τ r) (h : TRun P all Γ (List.take n rest) ((d, r) :: τ) τ' fss bs) : TRun P all Γ (List.take (n + 1) (o :: rest)) τ τ' ([] :: fss) (true :: bs) := TRun.loose' hw hd hl h
theorem TR.s {d : Nat} (hw : wantT all τ o = some false) (hd : o.dst = some d) (h : TRun P all Γ (List.take n rest) ((d, .x undef) :: τ) τ' fss bs) : TRun P all Γ (List.take (n + 1) (o :: rest)) τ τ' ([] :: fss) (false :: bs) := TRun.s hw hd h
theorem TR.nil {l : List Oper} : TRun P all Γ (List.take 0 l) τ τ [] [] := TRun.nil τ
theorem ROps.dropS (h : ROps P N all (List.drop n rest) τ Γ Q) : ROps P N all (List.drop (n + 1) (o :: rest)) τ Γ Q := h
theorem ROps.drop0 {l : List Oper} (h : ROps P N all l τ Γ Q) : ROps P N all (List.drop 0 l) τ Γ Q := h
end draw
end
end Go.AM
namespace Go.AM
section
variable {P : Program} {N : Nat} {o : Oper} {τ : List (Nat × AV)} {Γ : List Ob} {Q : PQ}
/-- Is a settled slice nil? Both ways are gone; on the one it has no elements. -/
theorem ROps.eqnil {all : Array Oper} {rest : List Oper} {t ty e : TypeId} {x y : Operand} {n d : Nat} {l : List AV} (hw : wantT all τ o = some true) (ht : P.underlying t = some (.slice e)) (ho : o.op = .binOp .eql t x y ty) (hd : o.dst = some d) (hN : Nat.blt d N = true) (hx : ev τ x = .sl n l) (hy : ev τ y = .nilsl)
    (h1 : l = [] → ROps P N all rest ((d, .b true) :: τ) Γ Q) (h2 : ROps P N all rest ((d, .b false) :: τ) Γ Q) : ROps P N all (o :: rest) τ Γ Q := by
  refine ROps.op hw ?_
  intro S0 μ0 w0 S μ a w hi next Q' hnx
  have k1 := hi.ci.ev x
  have k2 := hi.ci.ev y
  rw [hx] at k1
  rw [hy] at k2
  simp only [V] at k1 k2
  obtain ⟨ad, cap, k1, k3, k4⟩ := k1
  have hu : ∀ w, (underlying t).run P w = .ok (.slice e) w := run_underlying ht
  have fin : ∀ b : Bool, (execOp a.eval o).run P w = .ok (.value (.bool b)) w → ROps P N all rest ((d, .b b) :: τ) Γ Q → o.wp P a w next Q' := by
    intro b hrun hk
    unfold Oper.wp
    rw [hrun]
    refine hnx S μ (.bool b) w _ Γ (SExt.refl S) hk ⟨hi.fr, hi.wi, ?_, by rw [put_size]; exact hi.tsz, by rw [put_defers]; exact hi.dfr⟩
    have := hi.ci.put (dst := o.dst) (r := .b b) (v := .bool b) (fun d' hd' => by rw [hi.tsz]; rw [hd] at hd'; cases hd'; simpa using hN) (by simp only [V])
    rw [hd] at this ⊢
    exact this
  cases ad with
  | none =>
    refine fin true ?_ (h1 ?_)
    · have : (Op.equal t (.slice none n cap) (.slice none 0 0)).run P w = .ok true w := by
        unfold Op.equal Op.maxDepth Op.equalIn; simp [hu]
      simp [execOp, ho, k1, k2, eqGuard, binOp, this]
    · rcases k4 with h | ⟨b, off, cs, h, _⟩
      · exact h
      · cases h
  | some b =>
    refine fin false ?_ h2
    have : (Op.equal t (.slice (some b) n cap) (.slice none 0 0)).run P w = .ok false w := by
      unfold Op.equal Op.maxDepth Op.equalIn; simp [hu]
    simp [execOp, ho, k1, k2, eqGuard, binOp, this]
end
end Go.AM
