/- The abstract layer: what the generated functions are written in, and the forms in which the generated proofs use the layer. -/
import Derived.Test.YtmgjiomflefedaaAmCallN
namespace Go.AM

/-! plain functions -/
def obind {α β : Type} (x : Option α) (k : α → Option β) : Option β := x.bind k
def obind2 {α β γ : Type} (x : Option (α × β)) (k : α → β → Option γ) : Option γ := x.bind fun y => k y.1 y.2
def obind3 {α β γ δ : Type} (x : Option (α × β × γ)) (k : α → β → γ → Option δ) : Option δ := x.bind fun y => k y.1 y.2.1 y.2.2
def obind4 {α β γ δ ε : Type} (x : Option (α × β × γ × δ)) (k : α → β → γ → δ → Option ε) : Option ε := x.bind fun y => k y.1 y.2.1 y.2.2.1 y.2.2.2
def obind5 {α β γ δ ε ζ : Type} (x : Option (α × β × γ × δ × ε)) (k : α → β → γ → δ → ε → Option ζ) : Option ζ := x.bind fun y => k y.1 y.2.1 y.2.2.1 y.2.2.2.1 y.2.2.2.2
def obind6 {α β γ δ ε ζ η : Type} (x : Option (α × β × γ × δ × ε × ζ)) (k : α → β → γ → δ → ε → ζ → Option η) : Option η := x.bind fun y => k y.1 y.2.1 y.2.2.1 y.2.2.2.1 y.2.2.2.2.1 y.2.2.2.2.2
def obind7 {α β γ δ ε ζ η θ : Type} (x : Option (α × β × γ × δ × ε × ζ × η)) (k : α → β → γ → δ → ε → ζ → η → Option θ) : Option θ := x.bind fun y => k y.1 y.2.1 y.2.2.1 y.2.2.2.1 y.2.2.2.2.1 y.2.2.2.2.2.1 y.2.2.2.2.2.2
def obind8 {α β γ δ ε ζ η θ ι : Type} (x : Option (α × β × γ × δ × ε × ζ × η × θ)) (k : α → β → γ → δ → ε → ζ → η → θ → Option ι) : Option ι := x.bind fun y => k y.1 y.2.1 y.2.2.1 y.2.2.2.1 y.2.2.2.2.1 y.2.2.2.2.2.1 y.2.2.2.2.2.2.1 y.2.2.2.2.2.2.2
theorem obind_some {α β : Type} {x : Option α} {k : α → Option β} {r : β} (h : obind x k = some r) : ∃ a, x = some a ∧ k a = some r := Option.bind_eq_some_iff.1 h
theorem obind2_some {α β γ : Type} {x : Option (α × β)} {k : α → β → Option γ} {r : γ} (h : obind2 x k = some r) : ∃ a b, x = some (a, b) ∧ k a b = some r := by
  obtain ⟨⟨a, b⟩, h1, h2⟩ := Option.bind_eq_some_iff.1 h; exact ⟨a, b, h1, h2⟩
theorem obind3_some {α β γ δ : Type} {x : Option (α × β × γ)} {k : α → β → γ → Option δ} {r : δ} (h : obind3 x k = some r) : ∃ a b c, x = some (a, b, c) ∧ k a b c = some r := by
  obtain ⟨⟨a, b, c⟩, h1, h2⟩ := Option.bind_eq_some_iff.1 h; exact ⟨a, b, c, h1, h2⟩
theorem obind4_some {α β γ δ ε : Type} {x : Option (α × β × γ × δ)} {k : α → β → γ → δ → Option ε} {r : ε} (h : obind4 x k = some r) : ∃ a b c d, x = some (a, b, c, d) ∧ k a b c d = some r := by
  obtain ⟨⟨a, b, c, d⟩, h1, h2⟩ := Option.bind_eq_some_iff.1 h; exact ⟨a, b, c, d, h1, h2⟩
theorem obind5_some {α β γ δ ε ζ : Type} {x : Option (α × β × γ × δ × ε)} {k : α → β → γ → δ → ε → Option ζ} {r : ζ} (h : obind5 x k = some r) : ∃ a b c d e, x = some (a, b, c, d, e) ∧ k a b c d e = some r := by
  obtain ⟨⟨a, b, c, d, e⟩, h1, h2⟩ := Option.bind_eq_some_iff.1 h; exact ⟨a, b, c, d, e, h1, h2⟩
theorem obind6_some {α β γ δ ε ζ η : Type} {x : Option (α × β × γ × δ × ε × ζ)} {k : α → β → γ → δ → ε → ζ → Option η} {r : η} (h : obind6 x k = some r) : ∃ a b c d e f, x = some (a, b, c, d, e, f) ∧ k a b c d e f = some r := by
  obtain ⟨⟨a, b, c, d, e, f⟩, h1, h2⟩ := Option.bind_eq_some_iff.1 h; exact ⟨a, b, c, d, e, f, h1, h2⟩
theorem obind7_some {α β γ δ ε ζ η θ : Type} {x : Option (α × β × γ × δ × ε × ζ × η)} {k : α → β → γ → δ → ε → ζ → η → Option θ} {r : θ} (h : obind7 x k = some r) : ∃ a b c d e f g, x = some (a, b, c, d, e, f, g) ∧ k a b c d e f g = some r := by
  obtain ⟨⟨a, b, c, d, e, f, g⟩, h1, h2⟩ := Option.bind_eq_some_iff.1 h; exact ⟨a, b, c, d, e, f, g, h1, h2⟩
theorem obind8_some {α β γ δ ε ζ η θ ι : Type} {x : Option (α × β × γ × δ × ε × ζ × η × θ)} {k : α → β → γ → δ → ε → ζ → η → θ → Option ι} {r : ι} (h : obind8 x k = some r) : ∃ a b c d e f g i, x = some (a, b, c, d, e, f, g, i) ∧ k a b c d e f g i = some r := by
  obtain ⟨⟨a, b, c, d, e, f, g, i⟩, h1, h2⟩ := Option.bind_eq_some_iff.1 h; exact ⟨a, b, c, d, e, f, g, i, h1, h2⟩
@[simp] theorem obind_none {α β : Type} (k : α → Option β) : obind none k = none := rfl
@[simp] theorem obind_eq {α β : Type} (a : α) (k : α → Option β) : obind (some a) k = k a := rfl
@[simp] theorem obind2_eq {α β γ : Type} (a : α) (b : β) (k : α → β → Option γ) : obind2 (some (a, b)) k = k a b := rfl
@[simp] theorem obind3_eq {α β γ δ : Type} (a : α) (b : β) (c : γ) (k : α → β → γ → Option δ) : obind3 (some (a, b, c)) k = k a b c := rfl
@[simp] theorem obind4_eq {α β γ δ ε : Type} (a : α) (b : β) (c : γ) (d : δ) (k : α → β → γ → δ → Option ε) : obind4 (some (a, b, c, d)) k = k a b c d := rfl
@[simp] theorem obind5_eq {α β γ δ ε ζ : Type} (a : α) (b : β) (c : γ) (d : δ) (e : ε) (k : α → β → γ → δ → ε → Option ζ) : obind5 (some (a, b, c, d, e)) k = k a b c d e := rfl
@[simp] theorem obind6_eq {α β γ δ ε ζ η : Type} (a : α) (b : β) (c : γ) (d : δ) (e : ε) (f : ζ) (k : α → β → γ → δ → ε → ζ → Option η) : obind6 (some (a, b, c, d, e, f)) k = k a b c d e f := rfl
@[simp] theorem obind7_eq {α β γ δ ε ζ η θ : Type} (a : α) (b : β) (c : γ) (d : δ) (e : ε) (f : ζ) (g : η) (k : α → β → γ → δ → ε → ζ → η → Option θ) : obind7 (some (a, b, c, d, e, f, g)) k = k a b c d e f g := rfl
@[simp] theorem obind8_eq {α β γ δ ε ζ η θ ι : Type} (a : α) (b : β) (c : γ) (d : δ) (e : ε) (f : ζ) (g : η) (i : θ) (k : α → β → γ → δ → ε → ζ → η → θ → Option ι) : obind8 (some (a, b, c, d, e, f, g, i)) k = k a b c d e f g i := rfl
def bsel {α : Type} (c : Bool) (x y : Option α) : Option α := cond c x y
theorem bsel_some {α : Type} {c : Bool} {x y : Option α} {r : α} (h : bsel c x y = some r) : (c = true ∧ x = some r) ∨ (c = false ∧ y = some r) := by
  cases c
  · exact .inr ⟨rfl, h⟩
  · exact .inl ⟨rfl, h⟩
@[simp] theorem bsel_true {α : Type} (x y : Option α) : bsel true x y = x := rfl
@[simp] theorem bsel_false {α : Type} (x y : Option α) : bsel false x y = y := rfl
theorem bsel_if {α : Type} (c : Bool) (x y : Option α) : bsel c x y = if c = true then x else y := by cases c <;> rfl
def olet {α β : Type} (a : α) (k : α → Option β) : Option β := k a
theorem olet_some {α β : Type} {a : α} {k : α → Option β} {r : β} (h : olet a k = some r) : ∃ x, a = x ∧ k x = some r := ⟨a, rfl, h⟩
@[simp] theorem olet_eq {α β : Type} (a : α) (k : α → Option β) : olet a k = k a := rfl
def need {α : Type} (c : Bool) (x : Option α) : Option α := cond c x none
theorem need_some {α : Type} {c : Bool} {x : Option α} {r : α} (h : need c x = some r) : c = true ∧ x = some r := by
  cases c
  · cases h
  · exact ⟨rfl, h⟩
@[simp] theorem need_true {α : Type} (x : Option α) : need true x = x := rfl
@[simp] theorem need_false {α : Type} (x : Option α) : need false x = none := rfl
def osum {ε ρ α : Type} (x : ε ⊕ ρ) (k : ε → Option α) (j : ρ → Option α) : Option α := match x with
  | .inl e => k e
  | .inr r => j r
@[simp] theorem osum_inl {ε ρ α : Type} (e : ε) (k : ε → Option α) (j : ρ → Option α) : osum (.inl e) k j = k e := rfl
@[simp] theorem osum_inr {ε ρ α : Type} (r : ρ) (k : ε → Option α) (j : ρ → Option α) : osum (.inr r) k j = j r := rfl

/-- One round of a loop: on, out of it, or back from the function. -/
inductive LR (σ ε ρ : Type) where
  | next (s : σ)
  | out (e : ε)
  | ret (r : ρ)
def iter {σ ε ρ : Type} (step : σ → Option (LR σ ε ρ)) : Nat → σ → Option (ε ⊕ ρ)
  | 0, _ => none
  | n + 1, s => match step s with
    | none => none
    | some (.next s') => iter step n s'
    | some (.out e) => some (.inl e)
    | some (.ret r) => some (.inr r)
theorem iter_det {σ ε ρ : Type} {step : σ → Option (LR σ ε ρ)} : ∀ {n m : Nat} {s : σ} {x y : ε ⊕ ρ}, iter step n s = some x → iter step m s = some y → x = y
  | 0, _, _, _, _, h, _ => by simp [iter] at h
  | _ + 1, 0, _, _, _, _, h => by simp [iter] at h
  | n + 1, m + 1, s, x, y, h, k => by
    simp only [iter] at h k
    split at h
    · cases h
    · rename_i e; rw [e] at k; exact iter_det h k
    · rename_i e; rw [e] at k; rw [← Option.some.inj h, ← Option.some.inj k]
    · rename_i e; rw [e] at k; rw [← Option.some.inj h, ← Option.some.inj k]
open Classical in
noncomputable def loopM {σ ε ρ : Type} (step : σ → Option (LR σ ε ρ)) (s : σ) : Option (ε ⊕ ρ) :=
  if h : ∃ x, ∃ n, iter step n s = some x then some h.choose else none
theorem loopM_iff {σ ε ρ : Type} {step : σ → Option (LR σ ε ρ)} {s : σ} {x : ε ⊕ ρ} : loopM step s = some x ↔ ∃ n, iter step n s = some x := by
  unfold loopM
  constructor
  · intro h
    split at h
    · rename_i hex
      obtain ⟨n, hn⟩ := hex.choose_spec
      rw [← Option.some.inj h]; exact ⟨n, hn⟩
    · cases h
  · rintro ⟨n, hn⟩
    have hex : ∃ x, ∃ n, iter step n s = some x := ⟨x, n, hn⟩
    rw [dif_pos hex]
    obtain ⟨m, hm⟩ := hex.choose_spec
    rw [iter_det hm hn]
theorem loopM_next {σ ε ρ : Type} {step : σ → Option (LR σ ε ρ)} {s s' : σ} (h : step s = some (.next s')) : loopM step s = loopM step s' := by
  apply Option.ext
  intro x
  rw [loopM_iff, loopM_iff]
  constructor
  · rintro ⟨n, hn⟩
    cases n with
    | zero => simp [iter] at hn
    | succ n => simp only [iter, h] at hn; exact ⟨n, hn⟩
  · rintro ⟨n, hn⟩
    exact ⟨n + 1, by simp only [iter, h]; exact hn⟩
theorem loopM_out {σ ε ρ : Type} {step : σ → Option (LR σ ε ρ)} {s : σ} {e : ε} (h : step s = some (.out e)) : loopM step s = some (.inl e) := by
  rw [loopM_iff]; exact ⟨1, by simp only [iter, h]⟩
theorem loopM_ret {σ ε ρ : Type} {step : σ → Option (LR σ ε ρ)} {s : σ} {r : ρ} (h : step s = some (.ret r)) : loopM step s = some (.inr r) := by
  rw [loopM_iff]; exact ⟨1, by simp only [iter, h]⟩

/-- Reading and writing a list at an integer place. -/
def at? {α : Type} (l : List α) (i : Int) : Option α := if 0 ≤ i then l[i.toNat]? else none
theorem at?_spec {α : Type} {l : List α} {i : Int} {a : α} (h : at? l i = some a) : 0 ≤ i ∧ i.toNat < l.length ∧ l[i.toNat]? = some a := by
  unfold at? at h
  split at h
  · rename_i h0; exact ⟨h0, lt_of_getElem? h, h⟩
  · cases h
def setAt? {α : Type} (l : List α) (i : Int) (a : α) : Option (List α) := if 0 ≤ i ∧ i.toNat < l.length then some (l.set i.toNat a) else none
theorem setAt?_spec {α : Type} {l l' : List α} {i : Int} {a : α} (h : setAt? l i a = some l') : 0 ≤ i ∧ i.toNat < l.length ∧ l' = l.set i.toNat a := by
  unfold setAt? at h
  split at h
  · rename_i h0; exact ⟨h0.1, h0.2, (Option.some.inj h).symm⟩
  · cases h
theorem setAt?_len {α : Type} {l l' : List α} {i : Int} {a : α} (h : setAt? l i a = some l') : l'.length = l.length := by
  obtain ⟨_, _, rfl⟩ := setAt?_spec h; simp

/-! machine forms -/
section
variable {P : Program} {N : Nat} {o : Oper} {τ : List (Nat × AV)} {Γ : List Ob} {Q : PQ}

theorem LOp.eqr {r r' : AV} (h : LOp P o τ r) (e : r = r') : LOp P o τ r' := e ▸ h
theorem TOp.eqr {r r' : AV} {fs : List (Nat × List AV)} (h : TOp P o τ Γ r fs) (e : r = r') : TOp P o τ Γ r' fs := e ▸ h

theorem RunC.cut {c : Code} {K : List (Nat × AV) → List Ob → Prop} (Mid : List (Nat × AV) → List Ob → Prop) (h1 : RunC P N c τ Γ (thenQ Mid Q)) (h2 : ∀ τ Γ, Mid τ Γ → K τ Γ) : RunC P N c τ Γ (thenQ K Q) := by
  refine h1.mono fun e τ Γ h => ?_
  cases e <;> first | exact h2 τ Γ h | exact h

theorem RunL.loopM {c : Code} {σ ε ρ : Type} {x : ε ⊕ ρ} (step : σ → Option (LR σ ε ρ)) (Fit : σ → List (Nat × AV) → List Ob → Prop)
    (h : ∀ s τ Γ y, Fit s τ Γ → step s = some y → (∀ e, y = .out e → x = .inl e) → (∀ r, y = .ret r → x = .inr r) → RunC P N c τ Γ (thenQ (fun τ Γ => ∃ s', y = .next s' ∧ Fit s' τ Γ) Q)) :
    ∀ s τ Γ, AM.loopM step s = some x → Fit s τ Γ → RunL P N c τ Γ Q := by
  have key : ∀ (n : Nat) (s : σ) (τ : List (Nat × AV)) (Γ : List Ob), iter step n s = some x → Fit s τ Γ → RunL P N c τ Γ Q := by
    intro n
    induction n with
    | zero => intro s τ Γ hn; simp [iter] at hn
    | succ n ih =>
      intro s τ Γ hn hf
      simp only [iter] at hn
      split at hn
      · cases hn
      · rename_i s' e
        refine RunL.step (RunC.cut _ (h s τ Γ _ hf e (fun _ h => by cases h) (fun _ h => by cases h)) ?_)
        rintro τ' Γ' ⟨s'', e', hf'⟩
        cases e'
        exact ih s' τ' Γ' hn hf'
      · rename_i e1 e
        refine RunL.step (RunC.cut _ (h s τ Γ _ hf e (fun e2 h => by cases h; exact (Option.some.inj hn).symm) (fun _ h => by cases h)) ?_)
        rintro τ' Γ' ⟨s'', e', hf'⟩
        cases e'
      · rename_i e1 e
        refine RunL.step (RunC.cut _ (h s τ Γ _ hf e (fun _ h => by cases h) (fun e2 h => by cases h; exact (Option.some.inj hn).symm)) ?_)
        rintro τ' Γ' ⟨s'', e', hf'⟩
        cases e'
  intro s τ Γ hl hf
  obtain ⟨n, hn⟩ := loopM_iff.1 hl
  exact key n s τ Γ hn hf

theorem lts0_map {α : Type} {f : α → AV} (hf : ∀ x, (f x).lt 0 = true) (l : List α) : AV.lts 0 (l.map f) = true := by
  induction l with
  | nil => rfl
  | cons a l ih => simp [AV.lts, hf, ih]
theorem noss_map {α : Type} {f : α → AV} (hf : ∀ x, (f x).nos = true) (l : List α) : AV.noss (l.map f) = true := by
  induction l with
  | nil => rfl
  | cons a l ih => simp [AV.noss, hf, ih]
theorem and_all {α : Type} {p : α → Bool} {a : α} {l : List α} (h : p a = true) (k : l.all p = true) : (a :: l).all p = true := by simp [h]; simpa using k

/-- A settled slice's element. -/
theorem LOp.ix {α : Type} {f : α → AV} {l : List α} {y : α} {t e : TypeId} {x ix : Operand} {k : IntKind} {i : Int} {n : Nat} (ht : ∀ w, (underlying t).run P w = .ok (.slice e) w) (he : ∀ w, (sizeOf e).run P w = .ok 1 w)
    (ho : o.op = .indexAddr t x ix) (hx : ev τ x = .sl n (l.map f)) (hn : l.length = n) (hi : ev τ ix = .x (.int k i)) (hy : at? l i = some y) : LOp P o τ (.ptr (f y :: (l.map f).drop (i.toNat + 1))) := by
  obtain ⟨h0, h1, h2⟩ := at?_spec hy
  refine LOp.indexAddr_sl ht he ho hx hi h0 (by omega) (fun e => by rw [List.map_eq_nil_iff] at e; subst e; simp at h1) ?_
  rw [List.drop_eq_getElem_cons (by simpa using h1)]
  congr 1
  rw [List.getElem?_eq_getElem h1] at h2
  rw [List.getElem_map, Option.some.inj h2]
end
end Go.AM
