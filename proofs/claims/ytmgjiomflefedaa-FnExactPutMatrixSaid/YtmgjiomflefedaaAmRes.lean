/- The abstract layer, eighth part: what a body hands back; slices made. -/
import Derived.Test.YtmgjiomflefedaaAmStore
namespace Go.AM

section
variable {P : Program} {o : Oper} {τ : List (Nat × AV)} {Γ : List Ob}

def readRes (tmps : Array Value) : ResultVar → Sem Value
  | .tmp t => pure (tmps.getD t undef)
  | .cell a t => do loadVar t (← asAddr (tmps.getD a undef))
/-- One result variable is read as claimed. -/
def RV (P : Program) (τ : List (Nat × AV)) (Γ : List Ob) (rv : ResultVar) (r : AV) : Prop :=
  ∀ (S : Snap) (μ : List Mu) (a : Act) (w : World), WI S μ Γ w → CI S μ τ a → ∃ v, (readRes a.tmps rv).run P w = .ok v w ∧ V S μ r v
theorem RV.tmp {t : Nat} {r : AV} (h : look τ t = r) : RV P τ Γ (.tmp t) r := by
  intro S μ a w _ hc
  refine ⟨_, rfl, ?_⟩
  rw [← h]; exact hc t
theorem RV.cell {t : TypeId} {x p ver n : Nat} {l r : List AV} (hg : ∀ w, (isAgg t).run P w = .ok true w) (hn : ∀ w, (sizeOf t).run P w = .ok n w) (hx : look τ x = .optr p ver 0) (hp : Γ[p]? = some ⟨ver, some l⟩) (hr : l.take n = r) (hlen : r.length = n) : RV P τ Γ (.cell x t) (.agg r) := by
  intro S μ a w hw hc
  have k1 := hc x
  rw [hx] at k1
  simp only [V] at k1
  obtain ⟨m, ad, h1, h2, h3, h4⟩ := k1
  obtain ⟨b, hb, rfl⟩ := h4 (hw.ver p _ m hp h1)
  obtain ⟨cs, T, e1, e2, e3, _⟩ := own_cells hw hp h1 hb
  have h5 := (e3.take n).vl_take
  rw [hr, hlen] at h5
  have hl2 : (cs.toList.take n).length = n := by rw [h5.length, hlen]
  have key := run_loadCells_snap (P := P) (w := w) (b := b) (off := 0) (vs := cs.toList.take n) (fun i v hi => by
    have hlt := lt_of_getElem? hi
    rw [hl2] at hlt
    rw [List.getElem?_take, if_pos hlt] at hi
    simp only [World.cell?, e1, Nat.zero_add]
    simpa using hi)
  rw [hl2] at key
  refine ⟨.agg (cs.toList.take n).toArray, ?_, ?_⟩
  · simp [readRes, h3, asAddr, loadVar, hg, hn, key]
  · simp only [V]
    exact ⟨_, rfl, by simpa using h5⟩
theorem results_eq (fn : Func) (tmps : Array Value) : results fn tmps = (do
    let vs ← fn.results.mapM (readRes tmps)
    pure (if h : vs.size = 1 then vs[0] else .tuple vs)) := by
  unfold results
  congr 1
theorem Res.one {fn : Func} {v1 : ResultVar} {r : AV} (hf : fn.results = #[v1]) (h1 : RV P τ Γ v1 r) : Res P fn τ Γ r := by
  intro S μ a w hw hc
  obtain ⟨u1, e1, k1⟩ := h1 S μ a w hw hc
  refine ⟨u1, ?_, k1⟩
  rw [results_eq, hf]
  simp [e1]
theorem Res.zero {fn : Func} (hf : fn.results = #[]) : Res P fn τ Γ (.tup []) := by
  intro S μ a w hw hc
  refine ⟨.tuple #[], ?_, ?_⟩
  · rw [results_eq, hf]; simp
  · simp only [V]; exact ⟨#[], rfl, by simp only [VL]⟩
theorem Res.two {fn : Func} {v1 v2 : ResultVar} {r1 r2 : AV} (hf : fn.results = #[v1, v2]) (h1 : RV P τ Γ v1 r1) (h2 : RV P τ Γ v2 r2) : Res P fn τ Γ (.tup [r1, r2]) := by
  intro S μ a w hw hc
  obtain ⟨u1, e1, k1⟩ := h1 S μ a w hw hc
  obtain ⟨u2, e2, k2⟩ := h2 S μ a w hw hc
  refine ⟨.tuple #[u1, u2], ?_, ?_⟩
  · rw [results_eq, hf]; simp [e1, e2]
  · simp only [V]; exact ⟨_, rfl, by simp only [VL]; exact ⟨k1, k2, trivial⟩⟩
theorem Res.three {fn : Func} {v1 v2 v3 : ResultVar} {r1 r2 r3 : AV} (hf : fn.results = #[v1, v2, v3]) (h1 : RV P τ Γ v1 r1) (h2 : RV P τ Γ v2 r2) (h3 : RV P τ Γ v3 r3) : Res P fn τ Γ (.tup [r1, r2, r3]) := by
  intro S μ a w hw hc
  obtain ⟨u1, e1, k1⟩ := h1 S μ a w hw hc
  obtain ⟨u2, e2, k2⟩ := h2 S μ a w hw hc
  obtain ⟨u3, e3, k3⟩ := h3 S μ a w hw hc
  refine ⟨.tuple #[u1, u2, u3], ?_, ?_⟩
  · rw [results_eq, hf]; simp [e1, e2, e3]
  · simp only [V]; exact ⟨_, rfl, by simp only [VL]; exact ⟨k1, k2, k3, trivial⟩⟩
theorem Res.four {fn : Func} {v1 v2 v3 v4 : ResultVar} {r1 r2 r3 r4 : AV} (hf : fn.results = #[v1, v2, v3, v4]) (h1 : RV P τ Γ v1 r1) (h2 : RV P τ Γ v2 r2) (h3 : RV P τ Γ v3 r3) (h4 : RV P τ Γ v4 r4) : Res P fn τ Γ (.tup [r1, r2, r3, r4]) := by
  intro S μ a w hw hc
  obtain ⟨u1, e1, k1⟩ := h1 S μ a w hw hc
  obtain ⟨u2, e2, k2⟩ := h2 S μ a w hw hc
  obtain ⟨u3, e3, k3⟩ := h3 S μ a w hw hc
  obtain ⟨u4, e4, k4⟩ := h4 S μ a w hw hc
  refine ⟨.tuple #[u1, u2, u3, u4], ?_, ?_⟩
  · rw [results_eq, hf]; simp [e1, e2, e3, e4]
  · simp only [V]; exact ⟨_, rfl, by simp only [VL]; exact ⟨k1, k2, k3, k4, trivial⟩⟩

/-- The end of a body that hands back nothing of its own memory. -/
theorem bodyQ.pure {fn : Func} {e : Exit} {r : AV} (he : e = .normal ∨ e = .ret) (hr : r.lt 0 = true) (h : Res P fn τ Γ r) : bodyQ P fn 0 r [] e τ Γ :=
  ⟨he, [], Nat.le_refl _, by simp, by rw [AV.ren_of_lt0 _ _ hr]; exact h, hr, rfl, by simp, by simp⟩

theorem wrap_i64 {n : Int} (h0 : -9223372036854775808 ≤ n) (h1 : n ≤ 9223372036854775807) : IntKind.i64.wrap n = n := by
  simp only [IntKind.wrap, IntKind.bits, IntKind.signed]
  simp
  split <;> omega

/-- make([]T, n): an own object of zeros. -/
theorem TOp.makeSlice_o {t e : TypeId} {x y : Operand} {n : Int} {z : Value} {za : AV} {by_ : Nat} (p : Nat) {g : Ob} (hp : Γ[p]? = some g) (ht : ∀ w, (underlying t).run P w = .ok (.slice e) w) (hi : ∃ I, (∀ w, (typeInfo e).run P w = .ok I w) ∧ I.bytes = by_) (hsz : ∀ w, (sizeOf e).run P w = .ok 1 w)
    (hz : ∀ w, (zeroValue e).run P w = .ok z w) (hzc : z.cells = #[z]) (hza : ∀ S μ, V S μ za z) (ho : o.op = .makeSlice t x y) (hx : ev τ x = .i64 n) (hy : ev τ y = .i64 n) (h0 : 0 ≤ n) (hmax : n < 9223372036854775808) (hb : (by_ : Int) * n ≤ 281474976710656) :
    TOp P o τ Γ (.oref p (g.ver + 1) 0 n.toNat) [(p, List.replicate n.toNat za)] := by
  intro S μ Γ2 a w _ hd hw h next Q hnx
  have k1 := opnd h (x := x) (by simp [ho, Op.operands]) hx
  have k2 := opnd h (x := y) (by simp [ho, Op.operands]) hy
  simp only [V] at k1 k2
  obtain ⟨I, hI, hIb⟩ := hi
  have hwr : IntKind.i64.wrap n = n := wrap_i64 (by omega) (by omega)
  have hfill : ((Array.range n.toNat).map fun i => z.cells[i % z.cells.size]!) = (List.replicate n.toNat z).toArray := by
    apply Array.ext'
    simp only [Array.toList_map, Array.toList_range]
    apply List.ext_getElem?
    intro i
    simp only [List.getElem?_map, List.getElem?_replicate]
    rcases Nat.lt_or_ge i n.toNat with hlt | hge
    · simp [hlt, hzc, Nat.mod_one]
    · simp [Nat.not_lt.2 hge]
  have hrun : (execOp a.eval o).run P w = .ok (.value (.slice (some ⟨w.heap.size, 0, none⟩) n.toNat n.toNat)) (more w (List.replicate n.toNat z).toArray e) := by
    have c1 : ¬ (n < 0) := by omega
    have c2 : ¬ ((I.bytes : Int) * n > 281474976710656) := by rw [hIb]; omega
    by_cases hn0 : n.toNat = 0
    · have hn : n = 0 := by omega
      subst hn
      simp [execOp, ho, k1, k2, Instr.makeSlice, ht, hI, asInt, asIntOf, hwr, hsz, newRow, more]
      rw [show Array.range 0 = #[] from by apply Array.ext'; simp]
      simp
    · have := hfill
      simp [execOp, ho, k1, k2, Instr.makeSlice, ht, hI, asInt, asIntOf, hwr, hsz, newRow, more, c1, c2, hn0, hz]
      rw [this]
      simp
  unfold Oper.wp
  rw [hrun]
  have hp2 : Γ2[p]? = some g := (hd (p, List.replicate n.toNat za) (by simp)).trans hp
  have hvl : VP S μ (List.replicate n.toNat za) (List.replicate n.toNat z) := by
    generalize n.toNat = k
    induction k with
    | zero => simp only [List.replicate_zero, VP]
    | succ k ih => simp only [List.replicate_succ, VP]; exact ⟨hza S μ, ih⟩
  obtain ⟨h1, h2⟩ := hw.fill_new (more_grow w (List.replicate n.toNat z).toArray e) (es := 0) (l := List.replicate n.toNat za) (blk := some w.heap.size) (cs := (List.replicate n.toNat z).toArray) hp2 (fun b hb => by simp at hb; subst hb; exact ⟨Nat.le_refl _, more_new w _ e⟩) (by simp) (by simpa using hvl)
  refine hnx S _ _ _ (SExt.refl S) (SFresh.refl _ S) h2 (by rw [fillOb_one hp2]; exact h1) ?_ (more_grow w _ e)
  have hml : p < μ.length := by rw [hw.len]; exact lt_of_getElem? hp2
  simp only [V]
  refine ⟨_, _, _, by simp [hml]; rfl, Nat.le_refl _, rfl, fun _ => ?_⟩
  simp
end
end Go.AM
