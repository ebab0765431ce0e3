/- The abstract layer, fifth part: new memory; own objects read, written, lent; calls. -/
import Derived.Test.YtmgjiomflefedaaAmOps
import Derived.Laws.Rows
namespace Go.AM

section
variable {P : Program} {o : Oper} {τ : List (Nat × AV)} {Γ : List Ob}

theorem WI.grow {S : Snap} {μ : List Mu} {Γ : List Ob} {w w' : World} (h : WI S μ Γ w) (hg : Grow w w') : WI S μ Γ w' := by
  refine ⟨fun b cs hb => ?_, h.len, h.ver, fun p ver l m hp hm => ?_, h.sep⟩
  · obtain ⟨T, m, e⟩ := h.snap b cs hb
    exact ⟨T, m, (hg.block b (Array.getElem?_eq_some_iff.1 e).1).trans e⟩
  · have := h.own p ver l m hp hm
    unfold OwnAt at *
    split at this
    · exact this
    · obtain ⟨h1, cs, T, h2, h3⟩ := this
      exact ⟨h1, cs, T, (hg.block _ (Array.getElem?_eq_some_iff.1 h2).1).trans h2, h3⟩

/-- A world with one block more. -/
def more (w : World) (cs : Array Value) (T : TypeId) : World := w.alloc (.cells cs T)
theorem more_grow (w : World) (cs : Array Value) (T : TypeId) : Grow w (more w cs T) :=
  ⟨by simp [more], fun b hb => heap_alloc_old w _ hb, rfl, rfl, rfl⟩
theorem more_new (w : World) (cs : Array Value) (T : TypeId) : (more w cs T).heap[w.heap.size]? = some (.cells cs T (0, 0)) := heap_alloc_new w _

def snapAdd (S : Snap) (b : Nat) (cs : Array Value) : Snap := fun x => if x = b then some cs else S x
theorem snap_lt {S : Snap} {w : World} (h : SnapOK S w) {b : Nat} {cs : Array Value} (hb : S b = some cs) : b < w.heap.size := by
  obtain ⟨T, m, e⟩ := h b cs hb
  exact (Array.getElem?_eq_some_iff.1 e).1
theorem snapAdd_ext {S : Snap} {w : World} (h : SnapOK S w) (cs : Array Value) : SExt S (snapAdd S w.heap.size cs) := by
  intro b c hb
  have := snap_lt h hb
  simp only [snapAdd]
  rw [if_neg (by omega)]; exact hb
theorem snapAdd_fresh {S : Snap} {w : World} (cs : Array Value) : SFresh w.heap.size S (snapAdd S w.heap.size cs) := by
  intro b c hb
  simp only [snapAdd] at hb
  split at hb
  · rename_i e; exact .inr (by omega)
  · exact .inl hb
theorem WI.settle_new {S : Snap} {μ : List Mu} {Γ : List Ob} {w : World} (h : WI S μ Γ w) (cs : Array Value) (T : TypeId) : WI (snapAdd S w.heap.size cs) μ Γ (more w cs T) := by
  have hg := h.grow (more_grow w cs T)
  refine ⟨fun b c hb => ?_, hg.len, hg.ver, fun p ver l m hp hm => ?_, hg.sep⟩
  · simp only [snapAdd] at hb
    split at hb
    · rename_i e; subst e; simp at hb; subst hb; exact ⟨T, _, more_new w cs T⟩
    · exact hg.snap b c hb
  · have h1 := hg.own p ver l m hp hm
    have h0 := h.own p ver l m hp hm
    unfold OwnAt at *
    split at h1
    · exact h1
    · rename_i b hb
      rw [hb] at h0
      obtain ⟨_, c0, T0, e0, _⟩ := h0
      have hlt := (Array.getElem?_eq_some_iff.1 e0).1
      obtain ⟨k1, c, T', k2, k3, k4⟩ := h1
      refine ⟨?_, c, T', k2, k3, VP.mono (snapAdd_ext h.snap cs) (MuLe.refl 0 μ) l _ k4⟩
      simp only [snapAdd]
      rw [if_neg (by omega)]; exact k1

/-- The names of an own object's new entry. -/
theorem MuLe.set {B : Nat} {μ : List Mu} {p : Nat} {m m' : Mu} (hm : μ[p]? = some m) (hv : m.ver < m'.ver) (hb : ∀ b, m'.blk = some b → m.blk = some b ∨ B ≤ b) : MuLe B μ (μ.set p m') := by
  intro i mi hi
  by_cases e : p = i
  · subst e
    rw [hm] at hi; simp at hi; subst hi
    have := lt_of_getElem? hm
    exact ⟨m', by simp [this], by omega, fun e => by omega, hb⟩
  · exact ⟨mi, by rw [List.getElem?_set_ne e]; exact hi, Nat.le_refl _, fun _ => rfl, fun _ h => .inl h⟩
theorem WI.fill_new {S : Snap} {μ : List Mu} {Γ : List Ob} {w w' : World} (h : WI S μ Γ w) (hg : Grow w w') {p es : Nat} {g : Ob} {l : List AV} {blk : Option Nat} {cs : Array Value} {T : TypeId} (hp : Γ[p]? = some g)
    (hblk : ∀ b, blk = some b → w.heap.size ≤ b ∧ w'.heap[b]? = some (.cells cs T (0, 0))) (hnil : blk = none → l = []) (hl : VP S μ l cs.toList) :
    WI S (μ.set p ⟨g.ver + 1, blk, cs.size, es⟩) (Γ.set p ⟨g.ver + 1, some l⟩) w' ∧ MuStep w.heap.size [(p, l)] μ (μ.set p ⟨g.ver + 1, blk, cs.size, es⟩) := by
  obtain ⟨m, hm⟩ : ∃ m, μ[p]? = some m := getElem?_of_lt (by rw [h.len]; exact lt_of_getElem? hp)
  have hv := h.ver p g m hp hm
  have hM : MuLe w.heap.size μ (μ.set p ⟨g.ver + 1, blk, cs.size, es⟩) := MuLe.set hm (by simp only; omega) fun b hb => .inr (hblk b hb).1
  have hpl := lt_of_getElem? hp
  have hml := lt_of_getElem? hm
  have h' := h.grow hg
  have hold : ∀ {i : Nat} {g1 : Ob} {m1 : Mu} {b : Nat}, i ≠ p → Γ[i]? = some g1 → g1.cells.isSome = true → μ[i]? = some m1 → m1.blk = some b → b < w.heap.size := by
    intro i g1 m1 b hi hg1 hs hm1 hb
    obtain ⟨v1, c1⟩ := g1
    obtain ⟨l1, rfl⟩ := Option.isSome_iff_exists.1 hs
    have := h.own i v1 l1 m1 hg1 hm1
    unfold OwnAt at this
    rw [hb] at this
    obtain ⟨_, c, T', e, _⟩ := this
    exact (Array.getElem?_eq_some_iff.1 e).1
  refine ⟨⟨h'.snap, by simp [h.len], ?_, ?_, ?_⟩, ⟨hM, ?_, ?_⟩⟩
  · intro i g1 m1 hg1 hm1
    by_cases e : p = i
    · subst e; simp [hpl] at hg1; simp [hml] at hm1; subst hg1; subst hm1; rfl
    · rw [List.getElem?_set_ne e] at hg1 hm1; exact h.ver i g1 m1 hg1 hm1
  · intro i v1 l1 m1 hg1 hm1
    by_cases e : p = i
    · subst e
      simp [hpl] at hg1; simp [hml] at hm1
      obtain ⟨_, rfl⟩ := hg1; subst hm1
      unfold OwnAt
      cases blk with
      | none => exact hnil rfl
      | some b =>
        obtain ⟨k1, k2⟩ := hblk b rfl
        refine ⟨?_, cs, T, k2, rfl, VP.mono (SExt.refl S) hM _ _ hl⟩
        cases hs : S b with
        | none => rfl
        | some c => have := snap_lt h.snap hs; omega
    · rw [List.getElem?_set_ne e] at hg1 hm1
      exact (h'.own i v1 l1 m1 hg1 hm1).mono hM
  · intro i i' g1 g1' m1 m1' b hg1 hs hg1' hs' hm1 hm1' hb hb'
    by_cases e : p = i
    · by_cases e' : p = i'
      · omega
      · subst e
        rw [List.getElem?_set_ne e'] at hg1' hm1'
        simp [hml] at hm1; subst hm1
        have k1 := (hblk b hb).1
        have k2 := hold (Ne.symm e') hg1' hs' hm1' hb'
        omega
    · rw [List.getElem?_set_ne e] at hg1 hm1
      by_cases e' : p = i'
      · subst e'
        simp [hml] at hm1'; subst hm1'
        have k1 := (hblk b hb').1
        have k2 := hold (Ne.symm e) hg1 hs hm1 hb
        omega
      · rw [List.getElem?_set_ne e'] at hg1' hm1'
        exact h.sep i i' g1 g1' m1 m1' b hg1 hs hg1' hs' hm1 hm1' hb hb'
  · intro i hi
    rw [List.getElem?_set_ne (hi (p, l) (by simp))]
  · intro i m1 b hm1 hb
    by_cases e : p = i
    · subst e; simp [hml] at hm1; subst hm1; exact .inr (hblk b hb).1
    · rw [List.getElem?_set_ne e] at hm1; exact .inl hm1
theorem fillOb_one {Γ : List Ob} {p : Nat} {g : Ob} {l : List AV} (hp : Γ[p]? = some g) : fillOb Γ [(p, l)] = Γ.set p ⟨g.ver + 1, some l⟩ := by
  simp [fillOb, fillOb1, hp]

/-- A value's cells. -/
def AV.cells? : AV → Option (List AV)
  | .agg l => some l
  | .x (.agg _) => none
  | .any => none
  | a => some [a]
theorem V.cells {S : Snap} {μ : List Mu} {a : AV} {v : Value} {l : List AV} (h : V S μ a v) (hl : a.cells? = some l) : VL S μ l v.cells.toList := by
  have one : ∀ {a : AV} {v : Value}, V S μ a v → v.cells = #[v] → VL S μ [a] v.cells.toList := by
    intro a v h e; rw [e]; simp only [VL, and_true]; exact h
  cases a with
  | agg l' =>
    simp [AV.cells?] at hl; subst hl
    simp only [V] at h
    obtain ⟨cs, rfl, h⟩ := h
    exact h
  | any => simp [AV.cells?] at hl
  | x u =>
    have h' := h
    simp only [V] at h'
    subst h'
    cases v <;> simp [AV.cells?] at hl <;> subst hl <;> exact one h rfl
  | f k c => simp [AV.cells?] at hl; subst hl; refine one h ?_; simp only [V] at h; obtain ⟨_, rfl, _⟩ := h; rfl
  | cx k r i => simp [AV.cells?] at hl; subst hl; refine one h ?_; simp only [V] at h; obtain ⟨_, _, rfl, _⟩ := h; rfl
  | bt k ik c => simp [AV.cells?] at hl; subst hl; refine one h ?_; simp only [V] at h; obtain ⟨_, rfl, _⟩ := h; rfl
  | sl n l' => simp [AV.cells?] at hl; subst hl; refine one h ?_; simp only [V] at h; obtain ⟨_, _, rfl, _⟩ := h; rfl
  | tup l' => simp [AV.cells?] at hl; subst hl; refine one h ?_; simp only [V] at h; obtain ⟨_, rfl, _⟩ := h; rfl
  | ptr l' => simp [AV.cells?] at hl; subst hl; refine one h ?_; simp only [V] at h; obtain ⟨_, _, _, rfl, _⟩ := h; rfl
  | fn g p q => simp [AV.cells?] at hl; subst hl; refine one h ?_; simp only [V] at h; obtain ⟨_, _, rfl, _⟩ := h; rfl
  | oref p ver off n => simp [AV.cells?] at hl; subst hl; refine one h ?_; simp only [V] at h; obtain ⟨_, _, _, _, _, rfl, _⟩ := h; rfl
  | optr p ver off => simp [AV.cells?] at hl; subst hl; refine one h ?_; simp only [V] at h; obtain ⟨_, _, _, _, rfl, _⟩ := h; rfl

/-- A parameter's box that is never written: settled at once. -/
theorem TOp.box_s {t : TypeId} {x : Operand} {r : AV} {l : List AV} (ho : o.op = .box t x) (hx : ev τ x = r) (hl : r.cells? = some l) : TOp P o τ Γ (.ptr l) [] := by
  intro S μ Γ2 a w _ _ hw h next Q hn
  have k1 := opnd h (x := x) (by simp [ho, Op.operands]) hx
  have k2 := k1.cells hl
  unfold Oper.wp
  have : (execOp a.eval o).run P w = .ok (.value (.pointer (some ⟨w.heap.size, 0, none⟩))) (more w (a.eval x).cells t) := by
    simp [execOp, ho, Instr.box, newVar, newRow, more]
  rw [this]
  have hS := snapAdd_ext hw.snap (a.eval x).cells
  refine hn _ μ _ _ hS (snapAdd_fresh _) (MuStep.refl _ _ _) (hw.settle_new (a.eval x).cells t) ?_ (more_grow w _ t)
  simp only [V]
  refine ⟨_, 0, (a.eval x).cells, rfl, by simp [snapAdd], ?_⟩
  exact VP.mono hS (MuLe.refl 0 μ) _ _ (by simpa using k2.vp)
/-- A variable's box of its own. -/
theorem TOp.box_o {t : TypeId} {x : Operand} {r : AV} {l : List AV} (p : Nat) {g : Ob} (hp : Γ[p]? = some g) (ho : o.op = .box t x) (hx : ev τ x = r) (hl : r.cells? = some l) : TOp P o τ Γ (.optr p (g.ver + 1) 0) [(p, l)] := by
  intro S μ Γ2 a w _ hd hw h next Q hn
  have k1 := opnd h (x := x) (by simp [ho, Op.operands]) hx
  have k2 := k1.cells hl
  unfold Oper.wp
  have : (execOp a.eval o).run P w = .ok (.value (.pointer (some ⟨w.heap.size, 0, none⟩))) (more w (a.eval x).cells t) := by
    simp [execOp, ho, Instr.box, newVar, newRow, more]
  rw [this]
  have hp2 : Γ2[p]? = some g := (hd (p, l) (by simp)).trans hp
  obtain ⟨h1, h2⟩ := hw.fill_new (more_grow w (a.eval x).cells t) (es := 1) (l := l) (blk := some w.heap.size) hp2 (fun b hb => by simp at hb; subst hb; exact ⟨Nat.le_refl _, more_new w _ t⟩) (by simp) k2.vp
  refine hn S _ _ _ (SExt.refl S) (SFresh.refl _ S) h2 (by rw [fillOb_one hp2]; exact h1) ?_ (more_grow w _ t)
  have hml : p < μ.length := by rw [hw.len]; exact lt_of_getElem? hp2
  simp only [V]
  exact ⟨_, _, by simp [hml]; rfl, Nat.le_refl _, rfl, fun _ => ⟨_, rfl, rfl⟩⟩
/-- A zero value's claims, whatever the names. -/
def ZeroOk (zl : List AV) (z : Value) : Prop := ∀ S μ, VL S μ zl z.cells.toList
theorem TOp.alloc_o {t : TypeId} {z : Value} {l : List AV} (p : Nat) {g : Ob} (hp : Γ[p]? = some g) (hz : ∀ w, (zeroValue t).run P w = .ok z w) (hl : ZeroOk l z) (ho : o.op = .alloc t) : TOp P o τ Γ (.optr p (g.ver + 1) 0) [(p, l)] := by
  intro S μ Γ2 a w _ hd hw h next Q hn
  unfold Oper.wp
  have : (execOp a.eval o).run P w = .ok (.value (.pointer (some ⟨w.heap.size, 0, none⟩))) (more w z.cells t) := by
    simp [execOp, ho, Instr.alloc, hz, newVar, newRow, more]
  rw [this]
  have hp2 : Γ2[p]? = some g := (hd (p, l) (by simp)).trans hp
  obtain ⟨h1, h2⟩ := hw.fill_new (more_grow w z.cells t) (es := 1) (l := l) (blk := some w.heap.size) hp2 (fun b hb => by simp at hb; subst hb; exact ⟨Nat.le_refl _, more_new w _ t⟩) (by simp) (hl S μ).vp
  refine hn S _ _ _ (SExt.refl S) (SFresh.refl _ S) h2 (by rw [fillOb_one hp2]; exact h1) ?_ (more_grow w _ t)
  have hml : p < μ.length := by rw [hw.len]; exact lt_of_getElem? hp2
  simp only [V]
  exact ⟨_, _, by simp [hml]; rfl, Nat.le_refl _, rfl, fun _ => ⟨_, rfl, rfl⟩⟩

/-- Reading an own object. -/
theorem own_cells {S : Snap} {μ : List Mu} {w : World} (hw : WI S μ Γ w) {p ver : Nat} {l : List AV} (hp : Γ[p]? = some ⟨ver, some l⟩) {m : Mu} (hm : μ[p]? = some m) {b : Nat} (hb : m.blk = some b) :
    ∃ cs T, w.heap[b]? = some (.cells cs T (0, 0)) ∧ cs.size = m.sz ∧ VP S μ l cs.toList ∧ S b = none := by
  have := hw.own p ver l m hp hm
  unfold OwnAt at this
  rw [hb] at this
  obtain ⟨h1, cs, T, h2, h3, h4⟩ := this
  exact ⟨cs, T, h2, h3, h4, h1⟩
theorem TOp.load1_o {t : TypeId} {x : Operand} {p ver off : Nat} {l : List AV} {r : AV} (hp : Γ[p]? = some ⟨ver, some l⟩) (hr : l[off]? = some r) (hg : ∀ w, (isAgg t).run P w = .ok false w) (ho : o.op = .load t x) (hx : ev τ x = .optr p ver off) : TOp P o τ Γ r [] := by
  intro S μ Γ2 a w hL _ hw h next Q hn
  have k1 := opnd h (x := x) (by simp [ho, Op.operands]) hx
  simp only [V] at k1
  obtain ⟨m, ad, h1, h2, h3, h4⟩ := k1
  have hp2 := hL.2 p ver l hp
  obtain ⟨b, hb, rfl⟩ := h4 (hw.ver p _ m hp2 h1)
  obtain ⟨cs, T, e1, e2, e3, _⟩ := own_cells hw hp2 h1 hb
  obtain ⟨v, hv, hvr⟩ := e3.get hr
  have hv' : cs[off]? = some v := by simpa using hv
  have hc : w.cell? ⟨b, off, none⟩ = some v := by simp [World.cell?, e1, hv']
  unfold Oper.wp
  have : (execOp a.eval o).run P w = .ok (.value v) w := by simp [execOp, ho, h3, Instr.loadAt, Instr.sureAddr, loadVar, hg, hc]
  rw [this]
  exact hn S μ _ w (SExt.refl S) (SFresh.refl _ S) (MuStep.refl _ _ _) hw hvr (Grow.refl w)
theorem TOp.loadAgg_o {t : TypeId} {x : Operand} {p ver off n : Nat} {l r : List AV} (hp : Γ[p]? = some ⟨ver, some l⟩) (hg : ∀ w, (isAgg t).run P w = .ok true w) (hn : ∀ w, (sizeOf t).run P w = .ok n w) (ho : o.op = .load t x) (hx : ev τ x = .optr p ver off) (hr : (l.drop off).take n = r) (hlen : r.length = n) : TOp P o τ Γ (.agg r) [] := by
  intro S μ Γ2 a w hL _ hw h next Q hnx
  have k1 := opnd h (x := x) (by simp [ho, Op.operands]) hx
  simp only [V] at k1
  obtain ⟨m, ad, h1, h2, h3, h4⟩ := k1
  have hp2 := hL.2 p ver l hp
  obtain ⟨b, hb, rfl⟩ := h4 (hw.ver p _ m hp2 h1)
  obtain ⟨cs, T, e1, e2, e3, _⟩ := own_cells hw hp2 h1 hb
  have h5 := ((e3.drop off).take n).vl_take
  rw [hr, hlen] at h5
  have hl2 : ((cs.toList.drop off).take n).length = n := by rw [h5.length, hlen]
  have key := run_loadCells_snap (P := P) (w := w) (b := b) (off := off) (vs := (cs.toList.drop off).take n) (fun i v hi => by
    have hlt := lt_of_getElem? hi
    rw [hl2] at hlt
    rw [List.getElem?_take, if_pos hlt, List.getElem?_drop] at hi
    simp only [World.cell?, e1]
    simpa using hi)
  rw [hl2] at key
  unfold Oper.wp
  have : (execOp a.eval o).run P w = .ok (.value (.agg ((cs.toList.drop off).take n).toArray)) w := by simp [execOp, ho, h3, Instr.loadAt, Instr.sureAddr, loadVar, hg, hn, key]
  rw [this]
  refine hnx S μ _ w (SExt.refl S) (SFresh.refl _ S) (MuStep.refl _ _ _) hw ?_ (Grow.refl w)
  simp only [V]
  exact ⟨_, rfl, by simpa using h5⟩
end
end Go.AM
