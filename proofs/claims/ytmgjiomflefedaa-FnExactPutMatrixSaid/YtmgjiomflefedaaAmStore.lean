/- The abstract layer, seventh part: own objects written; slices made; results. -/
import Derived.Test.YtmgjiomflefedaaAmEv
namespace Go.AM

section
variable {P : Program} {o : Oper} {τ : List (Nat × AV)} {Γ : List Ob}

/-- A claim on one cell that holds one value. -/
def AV.one : AV → Bool
  | .agg _ => false
  | .tup _ => false
  | .any => false
  | .x v => v.oneCell'
  | _ => true
theorem V.one {S : Snap} {μ : List Mu} {a : AV} {v : Value} (h : V S μ a v) (ha : a.one = true) : v.oneCell' = true ∧ v.cells = #[v] := by
  cases a with
  | agg l => simp [AV.one] at ha
  | tup l => simp [AV.one] at ha
  | any => simp [AV.one] at ha
  | x u => simp only [V] at h; subst h; simp only [AV.one] at ha; refine ⟨ha, ?_⟩; cases v <;> first | rfl | simp [Value.oneCell'] at ha
  | f k c => simp only [V] at h; obtain ⟨_, rfl, _⟩ := h; exact ⟨rfl, rfl⟩
  | cx k r i => simp only [V] at h; obtain ⟨_, _, rfl, _⟩ := h; exact ⟨rfl, rfl⟩
  | bt k ik c => simp only [V] at h; obtain ⟨_, rfl, _⟩ := h; exact ⟨rfl, rfl⟩
  | sl n l' => simp only [V] at h; obtain ⟨_, _, rfl, _⟩ := h; exact ⟨rfl, rfl⟩
  | ptr l' => simp only [V] at h; obtain ⟨_, _, _, rfl, _⟩ := h; exact ⟨rfl, rfl⟩
  | fn g p q => simp only [V] at h; obtain ⟨_, _, rfl, _⟩ := h; exact ⟨rfl, rfl⟩
  | oref p ver off n => simp only [V] at h; obtain ⟨_, _, _, _, _, rfl, _⟩ := h; exact ⟨rfl, rfl⟩
  | optr p ver off => simp only [V] at h; obtain ⟨_, _, _, _, rfl, _⟩ := h; exact ⟨rfl, rfl⟩

/-- One world's block with other cells. -/
def recell (w : World) (b : Nat) (cs : Array Value) (T : TypeId) : World := { w with heap := w.heap.setIfInBounds b (.cells cs T) }
theorem setCell_recell {w : World} {b i : Nat} {cs : Array Value} {T : TypeId} (h : w.heap[b]? = some (.cells cs T (0, 0))) (v : Value) : w.setCell ⟨b, i, none⟩ v = recell w b (cs.setIfInBounds i v) T := by
  unfold World.setCell recell
  congr 1
  apply Array.ext_getElem?
  intro j
  have hb := (Array.getElem?_eq_some_iff.1 h).1
  simp only [Array.getElem?_modify]
  by_cases e : b = j
  · subst e
    rw [if_pos rfl, h]
    simp [hb]
  · rw [if_neg e, Array.getElem?_setIfInBounds_ne e]
theorem recell_at {w : World} {b : Nat} {cs c0 : Array Value} {T T0 : TypeId} {f0 : Nat × Nat} (h : w.heap[b]? = some (.cells c0 T0 f0)) : (recell w b cs T).heap[b]? = some (.cells cs T (0, 0)) := by
  have hb := (Array.getElem?_eq_some_iff.1 h).1
  simp [recell, hb]
theorem recell_ne {w : World} {b j : Nat} {cs : Array Value} {T : TypeId} (h : b ≠ j) : (recell w b cs T).heap[j]? = w.heap[j]? := by
  simp [recell, Array.getElem?_setIfInBounds_ne h]
theorem recell_recell {w : World} {b : Nat} {cs cs' : Array Value} {T : TypeId} : recell (recell w b cs T) b cs' T = recell w b cs' T := by
  unfold recell
  congr 1
  apply Array.ext_getElem?
  intro j
  by_cases e : b = j
  · subst e; simp [Array.getElem?_setIfInBounds]
  · simp [Array.getElem?_setIfInBounds_ne e]

/-- A list with another one laid over it from an offset on. -/
def overlay {α : Type} (l : List α) (off : Nat) (m : List α) : List α := l.take off ++ m ++ l.drop (off + m.length)
theorem overlay_nil {α : Type} (l : List α) (off : Nat) : overlay l off [] = l := by simp [overlay]
theorem overlay_set {α : Type} {l : List α} {off : Nat} {x : α} (h : off < l.length) : overlay l off [x] = l.set off x := by
  simp only [overlay, List.length_cons, List.length_nil, Nat.zero_add, List.append_assoc, List.cons_append, List.nil_append]
  rw [List.set_eq_take_append_cons_drop, if_pos h]
theorem overlay_cons {α : Type} {l : List α} {off : Nat} {x : α} {m : List α} (h : off < l.length) : overlay l off (x :: m) = overlay (l.set off x) (off + 1) m := by
  have h1 : (l.set off x).take (off + 1) = l.take off ++ [x] := by
    rw [List.take_succ_eq_append_getElem (by simpa using h)]
    rw [List.take_set_of_le (Nat.le_refl _)]
    simp
  have h2 : (l.set off x).drop (off + 1 + m.length) = l.drop (off + 1 + m.length) := List.drop_set_of_lt (by omega)
  simp only [overlay, h1, h2, List.length_cons]
  simp [Nat.add_comm, Nat.add_left_comm]
theorem run_storeCells {w : World} {b : Nat} {T : TypeId} : ∀ (vs : List Value) (off i : Nat) (cs : Array Value), w.heap[b]? = some (.cells cs T (0, 0)) → off + i + vs.length ≤ cs.size → (∀ v ∈ vs, v.oneCell' = true) →
    (storeCells ⟨b, off, none⟩ vs i).run P w = .ok () (if vs = [] then w else recell w b (overlay cs.toList (off + i) vs).toArray T) := by
  intro vs
  induction vs generalizing w with
  | nil => intro off i cs _ _ _; simp [storeCells]
  | cons v vs ih =>
    intro off i cs h hlen hone
    have hb := (Array.getElem?_eq_some_iff.1 h).1
    have hlt : off + i < cs.size := by simp at hlen; omega
    have hc : w.cell? ⟨b, off + i, none⟩ = some cs[off + i] := by simp [World.cell?, h, hlt]
    have hfz : w.frozen? ⟨b, off + i, none⟩ = false := by simp [World.frozen?, h]
    have hst : (store (Addr.add ⟨b, off, none⟩ i) v).run P w = .ok () (recell w b (cs.setIfInBounds (off + i) v) T) := by
      rw [Addr.add_mk, run_store P w _ v _ (hone v (by simp)), hc]
      simp only [hfz, Bool.false_eq_true, if_false]
      rw [setCell_recell h]
    have h' : (recell w b (cs.setIfInBounds (off + i) v) T).heap[b]? = some (.cells (cs.setIfInBounds (off + i) v) T (0, 0)) := recell_at h
    have := ih (w := recell w b (cs.setIfInBounds (off + i) v) T) off (i + 1) _ h' (by simp at hlen ⊢; omega) (fun u hu => hone u (by simp [hu]))
    simp only [storeCells, Sem.run_bind, hst, Result.andThen_ok, this]
    rw [if_neg (List.cons_ne_nil v vs)]
    by_cases e : vs = []
    · subst e
      rw [if_pos rfl, overlay_set (by simpa using hlt)]
      have : cs.setIfInBounds (off + i) v = (cs.toList.set (off + i) v).toArray := by apply Array.ext'; simp
      rw [this]
    · rw [if_neg e, recell_recell]
      congr 2
      rw [overlay_cons (by simpa using hlt)]
      simp [Nat.add_assoc]

theorem VP.overlay {S : Snap} {μ : List Mu} {l m : List AV} {cs ms : List Value} {off : Nat} (h : VP S μ l cs) (k : VL S μ m ms) (hlen : off + m.length ≤ l.length) : VP S μ (AM.overlay l off m) (AM.overlay cs off ms) := by
  have h1 := (h.take off).vl_take
  have h2 : (l.take off).length = off := by simp; omega
  rw [h2] at h1
  unfold AM.overlay
  refine VP.app (VL.app h1 k) ?_
  rw [k.length]
  exact h.drop _

/-- What a store does to an own object. -/
theorem WI.put {S : Snap} {μ : List Mu} {Γ : List Ob} {w : World} (h : WI S μ Γ w) {p ver b : Nat} {l l' : List AV} {m : Mu} {cs cs' : Array Value} {T : TypeId} (hp : Γ[p]? = some ⟨ver, some l⟩) (hm : μ[p]? = some m) (hb : m.blk = some b) (hc : w.heap[b]? = some (.cells cs T (0, 0)))
    (hsz : cs'.size = cs.size) (hl : VP S μ l' cs'.toList) : WI S μ (Γ.set p ⟨ver, some l'⟩) (recell w b cs' T) := by
  have hpl := lt_of_getElem? hp
  obtain ⟨c0, T0, e0, e1, e2, e3⟩ := own_cells h hp hm hb
  have hSne : ∀ b' c, S b' = some c → b ≠ b' := fun b' c hs e => by subst e; rw [e3] at hs; cases hs
  refine ⟨fun b' c hs => ?_, by simp [h.len], ?_, ?_, ?_⟩
  · rw [recell_ne (hSne b' c hs)]; exact h.snap b' c hs
  · intro i g m1 hg hm1
    by_cases e : p = i
    · subst e; simp [hpl] at hg; subst hg; exact h.ver p ⟨ver, some l⟩ m1 hp hm1
    · rw [List.getElem?_set_ne e] at hg; exact h.ver i g m1 hg hm1
  · intro i v1 l1 m1 hg hm1
    by_cases e : p = i
    · subst e
      simp [hpl] at hg
      obtain ⟨_, rfl⟩ := hg
      rw [hm] at hm1; simp at hm1; subst hm1
      unfold OwnAt
      rw [hb]
      rw [hc] at e0; simp at e0; obtain ⟨rfl, rfl⟩ := e0
      exact ⟨e3, cs', T, recell_at hc, by rw [hsz]; exact e1, hl⟩
    · rw [List.getElem?_set_ne e] at hg
      have h1 := h.own i v1 l1 m1 hg hm1
      unfold OwnAt at h1 ⊢
      split at h1
      · exact h1
      · rename_i b1 hb1
        obtain ⟨k1, c1, T1, k2, k3⟩ := h1
        have hne : b ≠ b1 := fun eb => by
          subst eb
          exact e (h.sep p i _ _ m m1 b hp rfl hg rfl hm hm1 hb hb1)
        exact ⟨k1, c1, T1, by rw [recell_ne hne]; exact k2, k3⟩
  · intro i i' g g' m1 m1' b1 hg hs hg' hs' hm1 hm1' hb1 hb1'
    have key : ∀ {i : Nat} {g : Ob}, (Γ.set p ⟨ver, some l'⟩)[i]? = some g → g.cells.isSome = true → ∃ g0, Γ[i]? = some g0 ∧ g0.cells.isSome = true := by
      intro i g hg hs
      by_cases e : p = i
      · subst e; exact ⟨_, hp, rfl⟩
      · rw [List.getElem?_set_ne e] at hg; exact ⟨g, hg, hs⟩
    obtain ⟨g0, k1, k2⟩ := key hg hs
    obtain ⟨g0', k1', k2'⟩ := key hg' hs'
    exact h.sep i i' g0 g0' m1 m1' b1 k1 k2 k1' k2' hm1 hm1' hb1 hb1'

theorem ROp.store_le {N : Nat} {t : TypeId} {x y : Operand} {n p ver off : Nat} {l ys : List AV} {r : AV} {K : List (Nat × AV) → List Ob → Prop} (hn : ∀ w, (sizeOf t).run P w = .ok n w) (ho : o.op = .store t x y) (hd : o.dst = none)
    (hx : ev τ x = .optr p ver off) (hy : ∀ S μ v, V S μ (ev τ y) v → V S μ r v) (hc : r.cells? = some ys) (hone : ys.all AV.one = true) (hlen : ys.length = n) (hp : Γ[p]? = some ⟨ver, some l⟩) (hfit : off + ys.length ≤ l.length) (hK : K τ (Γ.set p ⟨ver, some (overlay l off ys)⟩)) : ROp P N o τ Γ K := by
  intro S0 μ0 w0 S μ a w hi next Q hnx
  have hw := hi.wi
  have k1 := hi.ci.ev x
  rw [hx] at k1
  simp only [V] at k1
  obtain ⟨m, ad, h1, h2, h3, h4⟩ := k1
  obtain ⟨b, hb, rfl⟩ := h4 (hw.ver p _ m hp h1)
  obtain ⟨cs, T, e1, e2, e3, e4⟩ := own_cells hw hp h1 hb
  have k2 := hy _ _ _ (hi.ci.ev y)
  have k3 := k2.cells hc
  have hvl : (a.eval y).cells.size = ys.length := by rw [← Array.length_toList]; exact k3.length
  have hones : ∀ v ∈ (a.eval y).cells.toList, v.oneCell' = true := by
    have : ∀ (l : List AV) (vs : List Value), VL S μ l vs → l.all AV.one = true → ∀ v ∈ vs, v.oneCell' = true := by
      intro l
      induction l with
      | nil => intro vs h _ v hv; cases vs with
        | nil => cases hv
        | cons _ _ => simp only [VL] at h
      | cons x l ih => intro vs h ha v hv; cases vs with
        | nil => simp only [VL] at h
        | cons u vs =>
          simp only [VL] at h
          simp only [List.all_cons, Bool.and_eq_true] at ha
          rcases List.mem_cons.1 hv with e | hv
          · subst e; exact (h.1.one ha.1).1
          · exact ih vs h.2 ha.2 v hv
    exact this ys _ k3 hone
  have hcl : l.length ≤ cs.toList.length := e3.length
  have hrun : (execOp a.eval o).run P w = .ok .skip (if (a.eval y).cells.toList = [] then w else recell w b (overlay cs.toList off (a.eval y).cells.toList).toArray T) := by
    have := run_storeCells (P := P) (w := w) (b := b) (T := T) (a.eval y).cells.toList off 0 cs e1 (by simp at hcl ⊢; omega) hones
    simp only [Nat.add_zero] at this
    simp [execOp, ho, Instr.storeAt, h3, Instr.sureAddr, storeVar, hn, hvl, hlen, this]
  unfold Oper.wp
  rw [hrun, Oper.upon_skip]
  have hput : a.put o.dst undef = a := by rw [hd]; rfl
  by_cases hnil : (a.eval y).cells.toList = []
  · rw [if_pos hnil]
    have hys : ys = [] := by rw [hnil] at k3; cases ys with
      | nil => rfl
      | cons _ _ => simp only [VL] at k3
    subst hys
    rw [overlay_nil] at hK
    have hΓ : Γ.set p ⟨ver, some l⟩ = Γ := by
      apply List.ext_getElem?
      intro i
      by_cases e : p = i
      · subst e
        rw [List.getElem?_set_self (lt_of_getElem? hp), hp]
      · rw [List.getElem?_set_ne e]
    rw [hΓ] at hK
    exact hnx S μ undef w τ Γ (SExt.refl S) hK (by rw [hput]; exact hi)
  · rw [if_neg hnil]
    have hsz : (overlay cs.toList off (a.eval y).cells.toList).toArray.size = cs.size := by
      have h1 : (a.eval y).cells.toList.length = ys.length := k3.length
      simp only [List.size_toArray, overlay, List.length_append, List.length_take, List.length_drop, h1]
      simp at hcl
      simp only [Array.length_toList]
      omega
    have hw' := hw.put hp h1 hb e1 hsz (by simpa using e3.overlay k3 (by omega))
    refine hnx S μ undef _ τ _ (SExt.refl S) hK ?_
    rw [hput]
    refine ⟨⟨hi.fr.ext, hi.fr.le, hi.fr.new, ?_, by simpa [recell] using hi.fr.size, hi.fr.os, hi.fr.tape, hi.fr.output, hi.fr.sf⟩, hw', hi.ci, hi.tsz, hi.dfr⟩
    intro b' hb' hno
    have hne : b ≠ b' := by
      intro e
      subst e
      rcases hi.fr.new p m b h1 hb with ⟨m0, q1, q2⟩ | q
      · exact hno p m0 q1 q2
      · omega
    rw [recell_ne hne]
    exact hi.fr.keep b' hb' hno

theorem ROps.store {N : Nat} {all : Array Oper} {rest : List Oper} {Q : PQ} {t : TypeId} {x y : Operand} {n p ver off : Nat} {l ys : List AV} {r : AV} (hw : wantT all τ o = some true) (hn : ∀ w, (sizeOf t).run P w = .ok n w) (ho : o.op = .store t x y) (hd : o.dst = none)
    (hx : ev τ x = .optr p ver off) (hy : ev τ y = r) (hc : r.cells? = some ys) (hone : ys.all AV.one = true) (hlen : ys.length = n) (hp : Γ[p]? = some ⟨ver, some l⟩) (hfit : off + ys.length ≤ l.length) {l' : List AV} (hl' : overlay l off ys = l') (h : ROps P N all rest τ (Γ.set p ⟨ver, some l'⟩) Q) : ROps P N all (o :: rest) τ Γ Q :=
  ROps.op hw (ROp.store_le hn ho hd hx (fun _ _ _ k => hy ▸ k) hc hone hlen hp hfit (hl' ▸ h))
/-- The same, the value's claim weakened. -/
theorem ROps.store_le {N : Nat} {all : Array Oper} {rest : List Oper} {Q : PQ} {t : TypeId} {x y : Operand} {n p ver off : Nat} {l ys : List AV} {r : AV} (hw : wantT all τ o = some true) (hn : ∀ w, (sizeOf t).run P w = .ok n w) (ho : o.op = .store t x y) (hd : o.dst = none)
    (hx : ev τ x = .optr p ver off) (hy : ∀ S μ v, V S μ (ev τ y) v → V S μ r v) (hc : r.cells? = some ys) (hone : ys.all AV.one = true) (hlen : ys.length = n) (hp : Γ[p]? = some ⟨ver, some l⟩) (hfit : off + ys.length ≤ l.length) {l' : List AV} (hl' : overlay l off ys = l') {Γ' : List Ob} (hΓ : Γ.set p ⟨ver, some l'⟩ = Γ') (h : ROps P N all rest τ Γ' Q) : ROps P N all (o :: rest) τ Γ Q :=
  ROps.op hw (ROp.store_le hn ho hd hx hy hc hone hlen hp hfit (by subst hl'; subst hΓ; exact h))
end
end Go.AM
