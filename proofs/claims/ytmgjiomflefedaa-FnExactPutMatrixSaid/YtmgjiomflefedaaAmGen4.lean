/- The abstract layer: results, nil slices as own ones, element stores, forms of calls. -/
import Derived.Test.YtmgjiomflefedaaAmGen3
namespace Go.AM
section
variable {P : Program} {N : Nat} {o : Oper} {τ : List (Nat × AV)} {Γ : List Ob} {Q : PQ}

/-! what a body hands back -/
/-- The objects chosen at the end, one by one: cells without names, or written out. -/
def SelL (Γ : List Ob) (sel0 : List (Nat × Nat)) : List (Nat × Nat) → List Ob → Prop
  | [], [] => True
  | p :: sel, ⟨v, c⟩ :: Γ' => (match c with
      | none => ∃ c', Γ[p.1]? = some ⟨v + p.2, c'⟩
      | some l => Γ[p.1]? = some ⟨v + p.2, some (AV.rens (sigma sel0) l)⟩ ∧ AV.lts sel0.length l = true) ∧ SelL Γ sel0 sel Γ'
  | _, _ => False
theorem SelL.length {sel0 : List (Nat × Nat)} : ∀ {sel : List (Nat × Nat)} {Γ' : List Ob}, SelL Γ sel0 sel Γ' → Γ'.length = sel.length
  | [], [], _ => rfl
  | p :: sel, ⟨v, c⟩ :: Γ', h => by simp [SelL.length h.2]
  | [], _ :: _, h => h.elim
  | _ :: _, [], h => h.elim
theorem SelL.at {sel0 : List (Nat × Nat)} : ∀ {sel : List (Nat × Nat)} {Γ' : List Ob}, SelL Γ sel0 sel Γ' → ∀ (i : Nat) (g' : Ob) (p : Nat × Nat), Γ'[i]? = some g' → sel[i]? = some p → ∃ g, Γ[p.1]? = some g ∧ g.ver = g'.ver + p.2 ∧ ∀ l, g'.cells = some l → AV.lts sel0.length l = true ∧ g.cells = some (AV.rens (sigma sel0) l)
  | [], [], _, i, g', p, hg, _ => by simp at hg
  | q :: sel, ⟨v, c⟩ :: Γ', h, 0, g', p, hg, hp => by
    simp at hg hp
    subst hg; subst hp
    obtain ⟨h, _⟩ := h
    cases c with
    | none => obtain ⟨c', h⟩ := h; exact ⟨_, h, rfl, fun l e => by cases e⟩
    | some l => exact ⟨_, h.1, rfl, fun l' e => by cases e; exact ⟨h.2, rfl⟩⟩
  | q :: sel, ⟨v, c⟩ :: Γ', h, i + 1, g', p, hg, hp => by
    simp at hg hp
    exact SelL.at h.2 i g' p hg hp
  | [], _ :: _, h, _, _, _, _, _ => h.elim
  | _ :: _, [], h, _, _, _, _, _ => h.elim
theorem bodyQ.mk {fn : Func} {e : Exit} {k : Nat} {r r' : AV} {Γ' : List Ob} (sel : List (Nat × Nat)) (he : e = .normal ∨ e = .ret) (hk : (List.range k).all (fun i => sel[i]? == some (i, 0)) = true) (hn : (sel.map (·.1)).Nodup) (hr : r.ren (sigma sel) = r') (hrl : r.lt sel.length = true) (h : Res P fn τ Γ r') (hs : SelL Γ sel sel Γ') : bodyQ P fn k r Γ' e τ Γ := by
  have hall : ∀ i, i < k → sel[i]? = some (i, 0) := fun i hi => by
    have := List.all_eq_true.1 hk i (List.mem_range.2 hi)
    simpa using this
  refine ⟨he, sel, ?_, hall, by rw [hr]; exact h, hrl, hs.length, hn, fun i g' hg => ?_⟩
  · cases k with
    | zero => exact Nat.zero_le _
    | succ k => have := lt_of_getElem? (hall k (by omega)); omega
  · have hi : i < sel.length := by rw [← hs.length]; exact lt_of_getElem? hg
    have hp : sel[i]? = some (sigma sel i) := by simp [sigma, List.getD, List.getElem?_eq_getElem hi]
    exact hs.at i g' _ hg hp
theorem rens_map {α : Type} {f : α → AV} (hf : ∀ x, (f x).lt 0 = true) {σ : Nat → Nat × Nat} {l : List α} : l.map f = AV.rens σ (l.map f) := (AV.rens_of_lt0 σ _ (lts0_map hf l)).symm
theorem AV.lt_mono0 {k : Nat} : ∀ a : AV, a.lt 0 = true → a.lt k = true
  | a, h => by
    have : ∀ (l : List AV), (∀ a ∈ l, a.lt 0 = true → a.lt k = true) → AV.lts 0 l = true → AV.lts k l = true := by
      intro l
      induction l with
      | nil => intro _ _; rfl
      | cons a l ih =>
        intro hh ha
        simp only [AV.lts, Bool.and_eq_true] at ha ⊢
        exact ⟨hh a (by simp) ha.1, ih (fun b hb => hh b (by simp [hb])) ha.2⟩
    cases a with
    | sl n l => simp only [AV.lt] at h ⊢; exact this l (fun b _ => AV.lt_mono0 b) h
    | agg l => simp only [AV.lt] at h ⊢; exact this l (fun b _ => AV.lt_mono0 b) h
    | tup l => simp only [AV.lt] at h ⊢; exact this l (fun b _ => AV.lt_mono0 b) h
    | ptr l => simp only [AV.lt] at h ⊢; exact this l (fun b _ => AV.lt_mono0 b) h
    | fn g p q => simp only [AV.lt, Bool.and_eq_true] at h ⊢; exact ⟨this p (fun b _ => AV.lt_mono0 b) h.1, this q (fun b _ => AV.lt_mono0 b) h.2⟩
    | oref o _ _ _ => simp [AV.lt] at h
    | optr o _ _ => simp [AV.lt] at h
    | x _ => rfl
    | f _ _ => rfl
    | cx _ _ _ => rfl
    | bt _ _ _ => rfl
    | any => rfl
theorem lts_map {α : Type} {f : α → AV} (hf : ∀ x, (f x).lt 0 = true) (k : Nat) (l : List α) : AV.lts k (l.map f) = true := by
  induction l with
  | nil => rfl
  | cons a l ih => simp [AV.lts, AV.lt_mono0 _ (hf a), ih]
/-- One own array handed back. -/
theorem SelL.arr {α : Type} {f : α → AV} (hf : ∀ x, (f x).lt 0 = true) {sel0 sel : List (Nat × Nat)} {p s v : Nat} {l : List α} {Γ' : List Ob} (hp : Γ[p]? = some ⟨v + s, some (l.map f)⟩) (h : SelL Γ sel0 sel Γ') : SelL Γ sel0 ((p, s) :: sel) (⟨v, some (l.map f)⟩ :: Γ') :=
  ⟨⟨hp.trans (by rw [← rens_map hf]), lts_map hf _ l⟩, h⟩
theorem SelL.cells {sel0 sel : List (Nat × Nat)} {p s v : Nat} {l l' : List AV} {Γ' : List Ob} (hp : Γ[p]? = some ⟨v + s, some l'⟩) (hr : AV.rens (sigma sel0) l = l') (hl : AV.lts sel0.length l = true) (h : SelL Γ sel0 sel Γ') : SelL Γ sel0 ((p, s) :: sel) (⟨v, some l⟩ :: Γ') := by
  subst hr; exact ⟨⟨hp, hl⟩, h⟩

/-! a nil slice is an own empty one -/
theorem nil_own {S : Snap} {μ : List Mu} {w : World} (hw : WI S μ Γ w) {p v : Nat} {c : Option (List AV)} (hp : Γ[p]? = some ⟨v, c⟩) :
    WI S (μ.set p ⟨v + 1, none, 0, 0⟩) (Γ.set p ⟨v + 1, some []⟩) w ∧ MuStep w.heap.size [(p, [])] μ (μ.set p ⟨v + 1, none, 0, 0⟩) ∧ V S (μ.set p ⟨v + 1, none, 0, 0⟩) (.oref p (v + 1) 0 0) (.slice none 0 0) := by
  obtain ⟨h1, h2⟩ := hw.fill_new (Grow.refl w) (p := p) (es := 0) (l := []) (blk := none) (cs := #[]) (T := 0) hp (fun b hb => by cases hb) (fun _ => rfl) (by simp only [VP])
  refine ⟨h1, h2, ?_⟩
  have hml : p < μ.length := by rw [hw.len]; exact lt_of_getElem? hp
  simp only [V]
  exact ⟨⟨v + 1, none, 0, 0⟩, none, 0, by simp [hml], Nat.le_refl _, rfl, fun _ => by simp⟩
theorem RunC.nil_slot {c : Code} (t p : Nat) {v : Nat} (ht : look τ t = .nilsl) (hp : Γ[p]? = some ⟨v, none⟩) {Γ' : List Ob} (hΓ : Γ.set p ⟨v + 1, some []⟩ = Γ') (h : RunC P N c ((t, .oref p (v + 1) 0 0) :: τ) Γ' Q) : RunC P N c τ Γ Q := by
  subst hΓ
  intro S0 μ0 w0 S μ a w hi
  obtain ⟨h1, h2, h3⟩ := nil_own hi.wi hp
  refine h S0 μ0 w0 S _ a w ⟨hi.fr.grow (SExt.refl S) (SFresh.refl _ S) h2 (Grow.refl w), h1, ?_, hi.tsz, hi.dfr⟩
  intro u
  simp only [look]
  split
  · rename_i e
    subst e
    have := hi.ci t
    rw [ht] at this
    simp only [V] at this
    rw [this]; exact h3
  · exact V.mono (SExt.refl S) h2.le _ _ (hi.ci u)
theorem VL.nil_set {S : Snap} {μ : List Mu} {b : AV} (hb : V S μ b (.slice none 0 0)) : ∀ {l : List AV} {vs : List Value} {i : Nat}, VL S μ l vs → l[i]? = some .nilsl → VL S μ (l.set i b) vs
  | [], _, _, _, e => by simp at e
  | a :: l, v :: vs, 0, h, e => by
    simp at e; subst e
    simp only [VL, List.set_cons_zero] at h ⊢
    refine ⟨?_, h.2⟩
    have := h.1
    simp only [V] at this
    rw [this]; exact hb
  | a :: l, v :: vs, i + 1, h, e => by
    simp at e
    simp only [VL, List.set_cons_succ] at h ⊢
    exact ⟨h.1, VL.nil_set hb h.2 e⟩
  | _ :: _, [], _, h, _ => by simp only [VL] at h
theorem VP.nil_set {S : Snap} {μ : List Mu} {b : AV} (hb : V S μ b (.slice none 0 0)) : ∀ {l : List AV} {vs : List Value} {i : Nat}, VP S μ l vs → l[i]? = some .nilsl → VP S μ (l.set i b) vs
  | [], _, _, _, e => by simp at e
  | a :: l, v :: vs, 0, h, e => by
    simp at e; subst e
    simp only [VP, List.set_cons_zero] at h ⊢
    refine ⟨?_, h.2⟩
    have := h.1
    simp only [V] at this
    rw [this]; exact hb
  | a :: l, v :: vs, i + 1, h, e => by
    simp at e
    simp only [VP, List.set_cons_succ] at h ⊢
    exact ⟨h.1, VP.nil_set hb h.2 e⟩
  | _ :: _, [], _, h, _ => by simp only [VP] at h
theorem RunC.nil_agg {c : Code} (t i p : Nat) {v : Nat} {l : List AV} (ht : look τ t = .agg l) (hi' : l[i]? = some .nilsl) (hp : Γ[p]? = some ⟨v, none⟩) {Γ' : List Ob} (hΓ : Γ.set p ⟨v + 1, some []⟩ = Γ') {l' : List AV} (hl : l.set i (.oref p (v + 1) 0 0) = l') (h : RunC P N c ((t, .agg l') :: τ) Γ' Q) : RunC P N c τ Γ Q := by
  subst hΓ; subst hl
  intro S0 μ0 w0 S μ a w hi
  obtain ⟨h1, h2, h3⟩ := nil_own hi.wi hp
  refine h S0 μ0 w0 S _ a w ⟨hi.fr.grow (SExt.refl S) (SFresh.refl _ S) h2 (Grow.refl w), h1, ?_, hi.tsz, hi.dfr⟩
  intro u
  simp only [look]
  split
  · rename_i e
    subst e
    have := V.mono (SExt.refl S) h2.le _ _ (hi.ci t)
    rw [ht] at this
    simp only [V] at this ⊢
    obtain ⟨cs, k1, k2⟩ := this
    exact ⟨cs, k1, VL.nil_set h3 k2 hi'⟩
  · exact V.mono (SExt.refl S) h2.le _ _ (hi.ci u)
theorem RunC.nil_cell {c : Code} (q i p : Nat) {v vq : Nat} {l : List AV} (hq : Γ[q]? = some ⟨vq, some l⟩) (hi' : l[i]? = some .nilsl) (hp : Γ[p]? = some ⟨v, none⟩) {l' : List AV} (hl : l.set i (.oref p (v + 1) 0 0) = l') {Γ' : List Ob} (hΓ : (Γ.set p ⟨v + 1, some []⟩).set q ⟨vq, some l'⟩ = Γ') (h : RunC P N c τ Γ' Q) : RunC P N c τ Γ Q := by
  subst hΓ; subst hl
  intro S0 μ0 w0 S μ a w hi
  obtain ⟨h1, h2, h3⟩ := nil_own hi.wi hp
  have hne : p ≠ q := fun e => by subst e; rw [hp] at hq; simp at hq
  have hq' : (Γ.set p ⟨v + 1, some []⟩)[q]? = some ⟨vq, some l⟩ := by rw [List.getElem?_set_ne hne]; exact hq
  have hql := lt_of_getElem? hq'
  refine h S0 μ0 w0 S _ a w ⟨hi.fr.grow (SExt.refl S) (SFresh.refl _ S) h2 (Grow.refl w), ⟨h1.snap, by simpa using h1.len, ?_, ?_, ?_⟩, fun u => V.mono (SExt.refl S) h2.le _ _ (hi.ci u), hi.tsz, hi.dfr⟩
  · intro k g m hg hm
    by_cases e : q = k
    · subst e; rw [List.getElem?_set_self hql] at hg; simp at hg; subst hg; have := h1.ver q ⟨vq, some l⟩ m hq' hm; exact this
    · rw [List.getElem?_set_ne e] at hg; exact h1.ver k g m hg hm
  · intro k vk lk m hg hm
    by_cases e : q = k
    · subst e
      rw [List.getElem?_set_self hql] at hg; simp at hg
      obtain ⟨rfl, rfl⟩ := hg
      have := h1.own q vq l m hq' hm
      unfold OwnAt at this ⊢
      split at this
      · subst this; simp at hi'
      · obtain ⟨k1, cs, T, k2, k3, k4⟩ := this
        exact ⟨k1, cs, T, k2, k3, VP.nil_set h3 k4 hi'⟩
    · rw [List.getElem?_set_ne e] at hg; exact h1.own k vk lk m hg hm
  · have key : ∀ {k : Nat} {g : Ob}, ((Γ.set p ⟨v + 1, some []⟩).set q ⟨vq, some (l.set i (.oref p (v + 1) 0 0))⟩)[k]? = some g → g.cells.isSome = true → ∃ g0, (Γ.set p ⟨v + 1, some []⟩)[k]? = some g0 ∧ g0.cells.isSome = true := by
      intro k g hg hs
      by_cases e : q = k
      · subst e; exact ⟨_, hq', rfl⟩
      · rw [List.getElem?_set_ne e] at hg; exact ⟨g, hg, hs⟩
    intro k k' g g' m m' b hg hs hg' hs' hm hm' hb hb'
    obtain ⟨g0, a1, a2⟩ := key hg hs
    obtain ⟨g0', a1', a2'⟩ := key hg' hs'
    exact h1.sep k k' g0 g0' m m' b a1 a2 a1' a2' hm hm' hb hb'

/-! elements of own slices -/
theorem at_in {α : Type} {l : List α} {i : Int} {a : α} {n : Nat} (h : at? l i = some a) (hn : l.length = n) : 0 ≤ i ∧ i < n := by
  obtain ⟨h0, h1, _⟩ := at?_spec h; omega
theorem set_in {α : Type} {l l' : List α} {i : Int} {a : α} {n : Nat} (h : setAt? l i a = some l') (hn : l.length = n) : 0 ≤ i ∧ i < n := by
  obtain ⟨h0, h1, _⟩ := setAt?_spec h; omega
theorem TOp.ixo {t e : TypeId} {x ix : Operand} {p ver n : Nat} {k : IntKind} {i : Int} {l : List AV} (ht : ∀ w, (underlying t).run P w = .ok (.slice e) w) (he : ∀ w, (sizeOf e).run P w = .ok 1 w)
    (ho : o.op = .indexAddr t x ix) (hx : ev τ x = .oref p ver 0 n) (hi : ev τ ix = .x (.int k i)) (hb : 0 ≤ i ∧ i < n) (hΓ : Γ[p]? = some ⟨ver, some l⟩) : TOp P o τ Γ (.optr p ver i.toNat) [] := by
  have := LOp.indexAddr_oref ht he ho hx hi hb.1 hb.2 Γ hΓ
  rwa [Nat.zero_add] at this
theorem at_cell {α : Type} {f : α → AV} {l : List α} {i : Int} {a : α} (h : at? l i = some a) : (l.map f)[i.toNat]? = some (f a) := by
  obtain ⟨_, _, h⟩ := at?_spec h
  simp [h]
/-- A store of one element. -/
theorem ROps.st {α : Type} {f : α → AV} {l l' : List α} {i : Int} {y' : α} {all : Array Oper} {rest : List Oper} {t : TypeId} {x y : Operand} {p ver : Nat} {Γ' : List Ob} (hw : wantT all τ o = some true) (hn : ∀ w, (sizeOf t).run P w = .ok 1 w) (ho : o.op = .store t x y) (hd : o.dst = none)
    (hx : ev τ x = .optr p ver i.toNat) (hy : ALe (ev τ y) (f y')) (hc : (f y').cells? = some [f y']) (hone : (f y').one = true) (hp : Γ[p]? = some ⟨ver, some (l.map f)⟩) (hs : setAt? l i y' = some l') (hΓ : Γ.set p ⟨ver, some (l'.map f)⟩ = Γ') (h : ROps P N all rest τ Γ' Q) : ROps P N all (o :: rest) τ Γ Q := by
  obtain ⟨h0, h1, rfl⟩ := setAt?_spec hs
  refine ROps.op hw (ROp.store_le hn ho hd hx hy hc (by simp [hone]) rfl hp (by simp; omega) ?_)
  rw [overlay_set (by simpa using h1), ← List.map_set, hΓ]; exact h
end
end Go.AM
