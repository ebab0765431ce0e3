/- The abstract layer: the last forms for generated proofs. -/
import Derived.Test.YtmgjiomflefedaaAmGen4
namespace Go.AM
abbrev AV.ik (k : IntKind) (n : Int) : AV := .x (.int k n)
section
variable {P : Program} {N : Nat} {o : Oper} {τ : List (Nat × AV)} {Γ : List Ob} {Q : PQ}

def FillsL (Γ : List Ob) : List (Nat × List AV) → Prop
  | [] => True
  | f :: fs => (∃ ver, Γ[f.1]? = some ⟨ver, none⟩) ∧ FillsL Γ fs
theorem fills_of {fs : List (Nat × List AV)} (hn : (fs.map (·.1)).Nodup) (h : FillsL Γ fs) : fillsOk Γ fs := by
  refine ⟨hn, ?_⟩
  have : ∀ fs : List (Nat × List AV), FillsL Γ fs → ∀ f ∈ fs, ∃ ver, Γ[f.1]? = some ⟨ver, none⟩ := by
    intro fs
    induction fs with
    | nil => intro _ f hf; cases hf
    | cons g fs ih =>
      intro h f hf
      rcases List.mem_cons.1 hf with e | hf
      · subst e; exact h.1
      · exact ih h.2 f hf
  exact this fs h

/-- A load through a pointer to settled cells whose length is known. -/
theorem LOp.loadAgg' {t : TypeId} {x : Operand} {n : Nat} {l r : List AV} (hg : ∀ w, (isAgg t).run P w = .ok true w) (hn : ∀ w, (sizeOf t).run P w = .ok n w) (ho : o.op = .load t x) (hx : ev τ x = .ptr l) (hr : l.take n = r) (hl : r.length = n) : LOp P o τ (.agg r) := LOp.loadAgg hg hn ho hx hr hl
/-- A field of a struct value that is a struct itself, or not. -/
theorem LOp.len_own {α : Type} {f : α → AV} {l : List α} {n : Nat} {t e : TypeId} {x : Operand} {p ver : Nat} (ht : ∀ w, (underlying t).run P w = .ok (.slice e) w) (ho : o.op = .call { callee := .builtin .len, args := #[x], argTypes := #[t] }) (hx : ev τ x = .oref p ver 0 n) (hn : (l.map f).length = n) : LOp P o τ (.i64 l.length) := by
  have := LOp.len_oref ht ho hx
  rw [← hn, List.length_map] at this
  exact this
/-- Bits of a number that is none of the NaNs. -/
theorem LOp.fbx {f : FuncId} {k : FloatKind} {ik : IntKind} {x : Operand} {tys : Array TypeId} {c : F} {n : Nat} (hc : ∀ b w, (callFunc f #[.float k b]).run P w = .ok (.value (.int ik b)) w) (ho : o.op = .call { callee := .value (.func f), args := #[x], argTypes := tys }) (hx : OpF τ x k c) (hn : c = some n) : LOp P o τ (.x (.int ik n)) := by
  subst hn; exact LOp.bits_x hc ho hx
end
end Go.AM
namespace Go.AM
section
variable {P : Program} {N : Nat} {o : Oper} {τ : List (Nat × AV)} {Γ : List Ob} {Q : PQ}
/-- A slice as an element. -/
abbrev AV.sll {α : Type} (f : α → AV) (l : List α) : AV := .sl l.length (l.map f)
abbrev AV.cp (k : FloatKind) (p : F × F) : AV := .cx k p.1 p.2
theorem ALe.eq {a b : AV} (h : a = b) : ALe a b := h ▸ ALe.refl a
/-- Claims may say less. -/
def WeakLe (τ : List (Nat × AV)) : List (Nat × AV) → Prop
  | [] => True
  | (d, v) :: r => ALe (look τ d) v ∧ WeakLe τ r
/-- Own objects may be forgotten. -/
def DeadLe : List Ob → List Ob → Prop
  | [], [] => True
  | g :: l, g' :: l' => (g'.ver = g.ver ∧ (g'.cells = none ∨ g'.cells = g.cells)) ∧ DeadLe l l'
  | _, _ => False
theorem DeadLe.length : ∀ {l l' : List Ob}, DeadLe l l' → l'.length = l.length
  | [], [], _ => rfl
  | _ :: l, _ :: l', h => by simp [DeadLe.length h.2]
  | [], _ :: _, h => h.elim
  | _ :: _, [], h => h.elim
theorem DeadLe.at : ∀ {l l' : List Ob} {i : Nat} {g' : Ob}, DeadLe l l' → l'[i]? = some g' → ∃ g, l[i]? = some g ∧ g'.ver = g.ver ∧ (g'.cells = none ∨ g'.cells = g.cells)
  | [], [], _, _, _, h => by simp at h
  | g :: l, g1 :: l', 0, g', h, e => by simp at e; subst e; exact ⟨g, rfl, h.1⟩
  | _ :: l, _ :: l', i + 1, g', h, e => by simp at e; simpa using DeadLe.at h.2 e
  | [], _ :: _, _, _, h, _ => h.elim
  | _ :: _, [], _, _, h, _ => h.elim
theorem WI.dead {S : Snap} {μ : List Mu} {Γ' : List Ob} {w : World} (h : WI S μ Γ w) (hd : DeadLe Γ Γ') : WI S μ Γ' w := by
  refine ⟨h.snap, by rw [h.len, hd.length], ?_, ?_, ?_⟩
  · intro i g m hg hm
    obtain ⟨g0, h1, h2, _⟩ := hd.at hg
    rw [h2]; exact h.ver i g0 m h1 hm
  · intro i v l m hg hm
    obtain ⟨⟨v0, c0⟩, h1, h2, h3⟩ := hd.at hg
    rcases h3 with h3 | h3
    · cases h3
    · simp only at h2 h3; subst h2; subst h3; exact h.own i _ l m h1 hm
  · intro i i' g g' m m' b hg hs hg' hs' hm hm' hb hb'
    obtain ⟨g0, h1, h2, h3⟩ := hd.at hg
    obtain ⟨g0', h1', h2', h3'⟩ := hd.at hg'
    rcases h3 with h3 | h3
    · rw [h3] at hs; cases hs
    · rcases h3' with h3' | h3'
      · rw [h3'] at hs'; cases hs'
      · rw [h3] at hs; rw [h3'] at hs'; exact h.sep i i' g0 g0' m m' b h1 hs h1' hs' hm hm' hb hb'
theorem WeakLe.look {S : Snap} {μ : List Mu} {τ' : List (Nat × AV)} {t : Nat} {v : Value} (h : V S μ (look τ t) v) (hw : WeakLe τ τ') : V S μ (AM.look τ' t) v := by
  induction τ' with
  | nil => simp only [AM.look, V]
  | cons p τ' ih =>
    obtain ⟨d, x⟩ := p
    simp only [AM.look]
    split
    · rename_i e; subst e; exact hw.1 _ _ _ h
    · exact ih hw.2
theorem RunC.wl {c : Code} {τ' : List (Nat × AV)} {Γ' : List Ob} (hw : WeakLe τ τ') (hd : DeadLe Γ Γ') (h : RunC P N c τ' Γ' Q) : RunC P N c τ Γ Q :=
  fun S0 μ0 w0 S μ a w hi => h S0 μ0 w0 S μ a w ⟨hi.fr, hi.wi.dead hd, fun t => WeakLe.look (hi.ci t) hw, hi.tsz, hi.dfr⟩
theorem RunC.cutN {c : Code} (Mid : List (Nat × AV) → List Ob → Prop) (h1 : RunC P N c τ Γ (thenQ Mid Q)) (h2 : ∀ τ Γ, Mid τ Γ → Q .normal τ Γ) : RunC P N c τ Γ Q := by
  refine h1.mono fun e τ Γ h => ?_
  cases e <;> first | exact h2 τ Γ h | exact h
theorem Bor.ptr {l l' : List AV} (h : Bors Γ l l') : Bor Γ (.ptr l) (.ptr l') := by
  intro S μ Γ2 w Sb v hΓ hw hL hv
  simp only [V] at hv ⊢
  obtain ⟨b, off, cs, h1, h2, h3⟩ := hv
  exact ⟨b, off, cs, h1, hL.ext _ _ h2, h.p S μ Γ2 w Sb _ hΓ hw hL h3⟩
def NsL (Γ : List Ob) : List Nat → Prop
  | [] => True
  | p :: l => (∃ ver, Γ[p]? = some ⟨ver, none⟩) ∧ NsL Γ l
theorem ns_of : ∀ {ns : List Nat}, NsL Γ ns → ∀ p ∈ ns, ∃ ver, Γ[p]? = some ⟨ver, none⟩
  | [], _, p, hp => by cases hp
  | q :: ns, h, p, hp => by
    rcases List.mem_cons.1 hp with e | hp
    · subst e; exact h.1
    · exact ns_of h.2 p hp
theorem Res.eq {fn : Func} {r r' : AV} (h : Res P fn τ Γ r) (e : r = r') : Res P fn τ Γ r' := e ▸ h
theorem SelOk.of {sel : List (Nat × Nat)} {Γ' : List Ob} (hn : (sel.map (·.1)).Nodup) (h : SelL Γ sel sel Γ') : SelOk sel Γ Γ' :=
  ⟨h.length, hn, fun i g' hg => by
    have hi : i < sel.length := by rw [← h.length]; exact lt_of_getElem? hg
    have hp : sel[i]? = some (sigma sel i) := by simp [sigma, List.getD, List.getElem?_eq_getElem hi]
    exact h.at i g' _ hg hp⟩
theorem SelL.arr0 {α : Type} {f : α → AV} (hf : ∀ x, (f x).lt 0 = true) {sel0 sel : List (Nat × Nat)} {p s : Nat} {l : List α} {Γ' : List Ob} (hp : Γ[p]? = some ⟨s, some (l.map f)⟩) (h : SelL Γ sel0 sel Γ') : SelL Γ sel0 ((p, s) :: sel) (⟨0, some (l.map f)⟩ :: Γ') :=
  SelL.arr hf (by rw [Nat.zero_add]; exact hp) h
end
end Go.AM
