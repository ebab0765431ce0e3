/- The abstract layer: further operations and forms for generated proofs. -/
import Derived.Test.YtmgjiomflefedaaAmGen
import Derived.ArgAppend
namespace Go.AM
section
variable {P : Program} {N : Nat} {o : Oper} {τ : List (Nat × AV)} {Γ : List Ob} {Q : PQ}

/-- One claim says no more than another. -/
def ALe (a b : AV) : Prop := ∀ S μ v, V S μ a v → V S μ b v
theorem ALe.refl (a : AV) : ALe a a := fun _ _ _ h => h
theorem ALe.any (a : AV) : ALe a .any := fun _ _ _ _ => by simp only [V]
theorem ALe.fl {k : FloatKind} {b : Nat} (hb : Nat.blt b (2 ^ k.format.width) = true) (hn : (k.format.read b).isNaN = false) : ALe (.x (.float k b)) (.f k (some b)) := by
  intro S μ v h
  simp only [V] at h ⊢
  exact ⟨b, h, rfl, by simpa using hb, hn⟩
theorem ALe.cpx {k : FloatKind} {a b : Nat} (ha : Nat.blt a (2 ^ k.format.width) = true) (hb : Nat.blt b (2 ^ k.format.width) = true) (hn : (k.format.read a).isNaN = false) (hm : (k.format.read b).isNaN = false) : ALe (.x (.complex k a b)) (.cx k (some a) (some b)) := by
  intro S μ v h
  simp only [V] at h ⊢
  exact ⟨a, b, h, ⟨rfl, by simpa using ha, hn⟩, ⟨rfl, by simpa using hb, hm⟩⟩
theorem ALe.nilsl : ALe .nilsl (.sl 0 []) := by
  intro S μ v hv
  simp only [V] at hv ⊢
  exact ⟨none, 0, hv, Nat.le_refl _, .inl trivial⟩
theorem ALe.ptr {a : AV} {l : List AV} : ALe (.ptr (a :: l)) (.ptr [a]) := by
  intro S μ v hv
  simp only [V] at hv ⊢
  obtain ⟨b, off, cs, h1, h2, h3⟩ := hv
  exact ⟨b, off, cs, h1, h2, by simpa using h3.take 1⟩
theorem LOp.le {r r' : AV} (h : LOp P o τ r) (e : ALe r r') : LOp P o τ r' := fun S μ a hx => (h S μ a hx).elim fun v hv => ⟨v, hv.1, e S μ v hv.2⟩
theorem TOp.le {r r' : AV} {fs : List (Nat × List AV)} (h : TOp P o τ Γ r fs) (e : ALe r r') : TOp P o τ Γ r' fs := fun S μ Γ2 a w h1 h2 h3 h4 next Q hn => h S μ Γ2 a w h1 h2 h3 h4 next Q fun S' μ' v w' k1 k2 k3 k4 k5 k6 => hn S' μ' v w' k1 k2 k3 k4 (e S' μ' v k5) k6
theorem Bor.le {a b c : AV} (h : ALe a b) (k : Bor Γ b c) : Bor Γ a c := fun S μ Γ2 w Sb v h1 h2 h3 hv => k S μ Γ2 w Sb v h1 h2 h3 (h S μ v hv)
theorem Bor.sl {α : Type} {f : α → AV} (hf : ∀ x, (f x).lt 0 = true) {n : Nat} {l : List α} : Bor Γ (.sl n (l.map f)) (.sl n (l.map f)) := Bor.pure (lts0_map hf l)
/-- A full own slice lent. -/
theorem Bor.own {α : Type} {f : α → AV} (hf : ∀ x, (f x).lt 0 = true) {p ver n : Nat} {l : List α} (hp : Γ[p]? = some ⟨ver, some (l.map f)⟩) (hn : l.length = n) : Bor Γ (.oref p ver 0 n) (.sl l.length (l.map f)) := by
  subst hn
  exact Bor.oref hp (Bors.pure (lts0_map hf l)).p (by simp)

/-- Claims of a list, one no more than the other. -/
def ALes : List AV → List AV → Prop
  | [], [] => True
  | a :: l, b :: m => ALe a b ∧ ALes l m
  | _, _ => False
theorem ALes.vl : ∀ {l m : List AV}, ALes l m → ∀ {S : Snap} {μ : List Mu} {vs : List Value}, VL S μ l vs → VL S μ m vs
  | [], [], _, _, _, _, h => h
  | a :: l, b :: m, k, S, μ, vs, h => by
    cases vs with
    | nil => simp only [VL] at h
    | cons v vs =>
      simp only [VL] at h ⊢
      exact ⟨k.1 _ _ _ h.1, ALes.vl k.2 h.2⟩
  | [], _ :: _, k, _, _, _, _ => k.elim
  | _ :: _, [], k, _, _, _, _ => k.elim

/-! struct values out of parts -/
def fillA (place : Nat → Option (Nat × Nat)) : List AV → List (Nat × List AV) → Option (List AV)
  | cells, [] => some cells
  | cells, (i, l) :: rest => match place i with
    | none => none
    | some (off, size) => if l.length = size ∧ off + l.length ≤ cells.length then fillA place (overlay cells off l) rest else none
def PartsOk (τ : List (Nat × AV)) : List (Nat × Operand) → List (Nat × List AV) → Prop
  | [], [] => True
  | (i, x) :: ps, (j, l) :: qs => i = j ∧ (∃ a, ALe (ev τ x) a ∧ a.cells? = some l) ∧ PartsOk τ ps qs
  | _, _ => False
theorem overlay_foldl {α : Type} (m : List α) : ∀ (k off : Nat) (cs : Array α), off + k + m.length ≤ cs.size →
    ((m.zipIdx k).foldl (fun cs (p : α × Nat) => cs.setIfInBounds (off + p.2) p.1) cs).toList = overlay cs.toList (off + k) m := by
  induction m with
  | nil => intro k off cs _; simp [overlay]
  | cons x m ih =>
    intro k off cs h
    simp only [List.length_cons] at h
    simp only [List.zipIdx_cons, List.foldl_cons]
    rw [ih (k + 1) off _ (by simp; omega)]
    rw [overlay_cons (by simp; omega)]
    simp [Nat.add_assoc]
theorem fill_ok {S : Snap} {μ : List Mu} {a : Act} (place : Nat → Option (Nat × Nat)) : ∀ (ps : List (Nat × Operand)) (qs : List (Nat × List AV)) (cells : List AV) (cs : Array Value) (r : List AV), PartsOk τ ps qs → (∀ p ∈ ps, V S μ (ev τ p.2) (a.eval p.2)) → VL S μ cells cs.toList → fillA place cells qs = some r →
    ∃ cs', Instr.fill place cs (ps.map fun p => (p.1, a.eval p.2)) = some cs' ∧ VL S μ r cs'.toList
  | [], [], cells, cs, r, _, _, hv, hf => by
    simp only [fillA, Option.some.injEq] at hf
    subst hf
    exact ⟨cs, rfl, hv⟩
  | (i, x) :: ps, (j, l) :: qs, cells, cs, r, hp, hx, hv, hf => by
    obtain ⟨rfl, ⟨b, h1, h2⟩, h3⟩ := hp
    simp only [fillA] at hf
    cases hpl : place i with
    | none => rw [hpl] at hf; cases hf
    | some os =>
      obtain ⟨off, size⟩ := os
      rw [hpl] at hf
      simp only at hf
      split at hf
      · rename_i hc
        have h4 := (h1 _ _ _ (hx (i, x) (by simp))).cells h2
        have h5 : (a.eval x).cells.size = l.length := by rw [← Array.length_toList]; exact h4.length
        have h6 : cs.size = cells.length := by rw [← Array.length_toList]; exact hv.length
        have h7 := overlay_foldl (a.eval x).cells.toList 0 off cs (by simp [h5]; omega)
        have h8 : VL S μ (overlay cells off l) (overlay cs.toList off (a.eval x).cells.toList) := by
          refine VL.of_vp (hv.vp.overlay h4 hc.2) ?_
          simp only [overlay, List.length_append, List.length_take, List.length_drop, Array.length_toList, h5, h6]
        obtain ⟨cs', k1, k2⟩ := fill_ok place ps qs (overlay cells off l) ((a.eval x).cells.zipIdx.foldl (fun cs (c, j) => cs.setIfInBounds (off + j) c) cs) r h3 (fun p hp => hx p (by simp [hp])) (by
          have : ((a.eval x).cells.zipIdx.foldl (fun cs (c, j) => cs.setIfInBounds (off + j) c) cs).toList = overlay cs.toList off (a.eval x).cells.toList := by
            rw [← Array.foldl_toList, Array.toList_zipIdx]; simpa using h7
          rw [this]; exact h8) hf
        refine ⟨cs', ?_, k2⟩
        simp only [List.map_cons, Instr.fill, hpl]
        rw [if_neg (by simp [h5, hc.1]; omega)]
        exact k1
      · cases hf
  | [], _ :: _, _, _, _, h, _, _, _ => h.elim
  | _ :: _, [], _, _, _, h, _, _, _ => h.elim
theorem LOp.build {t : TypeId} {parts : Array (Nat × Operand)} {fs : Array Field} {places : Array (Nat × Nat)} {z : Value} {zl r : List AV} {qs : List (Nat × List AV)} (hz : ∀ w, (zeroValue t).run P w = .ok z w) (hZ : ZeroOk zl z) (hs : ∀ w, (underlying t).run P w = .ok (.struct fs) w)
    (hpl : ∀ w, (fs.mapM fun f => Prod.mk f.offset <$> sizeOf f.type).run P w = .ok places w) (ho : o.op = .build t parts) (hps : PartsOk τ parts.toList qs) (hr : fillA (places[·]?) zl qs = some r) : LOp P o τ (.agg r) := by
  intro S μ a hx
  obtain ⟨cs', h1, h2⟩ := fill_ok (S := S) (μ := μ) (a := a) (places[·]?) parts.toList qs zl z.cells r hps (fun p hp => hx p.2 (by simp [ho, Op.operands]; exact ⟨p.1, by simpa using hp⟩)) (hZ S μ) hr
  refine ⟨.agg cs', fun w _ => ?_, ?_⟩
  · simp [execOp, ho, Instr.build, hz, hs, hpl, h1]
  · simp only [V]; exact ⟨cs', rfl, h2⟩

/-- []T{..}: an own object. -/
theorem TOp.buildSlice_o {t e : TypeId} {len : Nat} {parts : Array (Nat × Operand)} {z : Value} {za : AV} {r : List AV} {qs : List (Nat × List AV)} (p : Nat) {g : Ob} (hp : Γ[p]? = some g) (ht : ∀ w, (underlying t).run P w = .ok (.slice e) w) (hsz : ∀ w, (sizeOf e).run P w = .ok 1 w)
    (hz : ∀ w, (zeroValue e).run P w = .ok z w) (hzc : z.cells = #[z]) (hza : ∀ S μ, V S μ za z) (ho : o.op = .buildSlice t len parts) (hmax : Nat.ble len 16777216 = true) (hps : PartsOk τ parts.toList qs) (hr : fillA (fun i => some (i * 1, 1)) (List.replicate len za) qs = some r) :
    TOp P o τ Γ (.oref p (g.ver + 1) 0 len) [(p, r)] := by
  intro S μ Γ2 a w _ hd hw hx next Q hnx
  have hfill : ((Array.range (len * 1)).map fun i => (if len * 1 = 0 then (#[] : Array Value) else z.cells)[i % (if len * 1 = 0 then (#[] : Array Value) else z.cells).size]!) = (List.replicate len z).toArray := by
    apply Array.ext'
    simp only [Array.toList_map, Array.toList_range]
    apply List.ext_getElem?
    intro i
    simp only [List.getElem?_map, List.getElem?_replicate, Nat.mul_one]
    rcases Nat.lt_or_ge i len with hlt | hge
    · have : ¬ len = 0 := by omega
      simp [hlt, hzc, Nat.mod_one, this]
    · simp [Nat.not_lt.2 hge]
  have hzl : VL S μ (List.replicate len za) (List.replicate len z) := by
    clear hr hfill hmax
    induction len with
    | zero => simp only [List.replicate_zero, VL]
    | succ k ih => simp only [List.replicate_succ, VL]; exact ⟨hza S μ, by
        refine VL.of_vp ?_ (by simp)
        generalize k = k
        induction k with
        | zero => simp only [List.replicate_zero, VP]
        | succ k ih => simp only [List.replicate_succ, VP]; exact ⟨hza S μ, ih⟩⟩
  obtain ⟨cs', h1, h2⟩ := fill_ok (S := S) (μ := μ) (a := a) (fun i => some (i * 1, 1)) parts.toList qs (List.replicate len za) (List.replicate len z).toArray r hps (fun p hp => hx p.2 (by simp [ho, Op.operands]; exact ⟨p.1, by simpa using hp⟩)) (by simpa using hzl) hr
  have hrun : (execOp a.eval o).run P w = .ok (.value (.slice (some ⟨w.heap.size, 0, none⟩) len len)) (more w cs' e) := by
    have c1 : ¬ (len > 16777216) := by have := Nat.le_of_ble_eq_true hmax; omega
    by_cases hn0 : len = 0
    · subst hn0
      simp only [Nat.zero_mul, List.replicate_zero] at h1 hfill
      simp [execOp, ho, Instr.buildSlice, ht, hsz, newRow, more]
      simp at h1
      rw [show Array.range 0 = #[] from by apply Array.ext'; simp]
      simp [h1]
    · have h9 := hfill
      simp only [Nat.mul_one, if_neg hn0] at h9
      simp [execOp, ho, Instr.buildSlice, ht, hsz, newRow, more, c1, hn0, hz]
      simp at h9
      rw [h9]
      simp at h1
      simp [h1]
  unfold Oper.wp
  rw [hrun]
  have hp2 : Γ2[p]? = some g := (hd (p, r) (by simp)).trans hp
  obtain ⟨k1, k2⟩ := hw.fill_new (more_grow w cs' e) (es := 0) (l := r) (blk := some w.heap.size) (cs := cs') hp2 (fun b hb => by simp at hb; subst hb; exact ⟨Nat.le_refl _, more_new w _ e⟩) (by simp) h2.vp
  refine hnx S _ _ _ (SExt.refl S) (SFresh.refl _ S) k2 (by rw [fillOb_one hp2]; exact k1) ?_ (more_grow w _ e)
  have hml : p < μ.length := by rw [hw.len]; exact lt_of_getElem? hp2
  have hrl : r.length = len := by
    have : ∀ (qs : List (Nat × List AV)) (c r : List AV), fillA (fun i => some (i * 1, 1)) c qs = some r → r.length = c.length := by
      intro qs
      induction qs with
      | nil => intro c r h; simp only [fillA, Option.some.injEq] at h; rw [h]
      | cons q qs ih =>
        intro c r h
        obtain ⟨i, l⟩ := q
        simp only [fillA] at h
        split at h
        · rename_i hc
          rw [ih _ _ h]
          simp only [overlay, List.length_append, List.length_take, List.length_drop]
          omega
        · cases h
    simpa using this _ _ _ hr
  have hcl : cs'.size = len := by rw [← Array.length_toList, h2.length, hrl]
  simp only [V]
  refine ⟨_, _, _, by simp [hml]; rfl, Nat.le_refl _, rfl, fun _ => ?_⟩
  simp [hcl]
end
end Go.AM
