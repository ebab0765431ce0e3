/- The abstract layer, ninth part: loops; small steps for printed texts. -/
import Derived.Test.YtmgjiomflefedaaAmRes
namespace Go.AM

section
variable {P : Program} {N : Nat}

/-- At a loop's head, inside it. -/
def RunL (P : Program) (N : Nat) (c : Code) (τ : List (Nat × AV)) (Γ : List Ob) (Q : PQ) : Prop :=
  ∀ S0 μ0 w0 S μ a w, Inv S0 μ0 w0 N S μ τ Γ a w → ∀ (b : Frame) (k : List Item) (cs : List Frame),
    ∃ e a' w', Post S0 μ0 w0 N Q e a' w' ∧ Arrives P (lone (b.at a (.code c :: .inLoop c :: k)) cs w) b k cs e a' w'
theorem RunC.loop {c : Code} {τ : List (Nat × AV)} {Γ : List Ob} {Q : PQ} (h : RunL P N c τ Γ Q) : RunC P N (.loop c) τ Γ Q := by
  intro S0 μ0 w0 S μ a w hi b k cs
  obtain ⟨e, a', w', q, r⟩ := h S0 μ0 w0 S μ a w hi b k cs
  exact ⟨e, a', w', q, .of_steps (.one step_loop) r⟩
theorem RunL.step {c : Code} {τ : List (Nat × AV)} {Γ : List Ob} {Q : PQ} (h : RunC P N c τ Γ (thenQ (fun τ Γ => RunL P N c τ Γ Q) Q)) : RunL P N c τ Γ Q := by
  intro S0 μ0 w0 S μ a w hi b k cs
  obtain ⟨e, a₁, w₁, ⟨S1, μ1, τ1, Γ1, hq, hi1⟩, harr⟩ := h S0 μ0 w0 S μ a w hi b (.inLoop c :: k) cs
  cases e with
  | normal =>
    obtain ⟨e2, a2, w2, hq2, harr2⟩ := hq S0 μ0 w0 S1 μ1 a₁ w₁ hi1 b k cs
    exact ⟨e2, a2, w2, hq2, .of_steps (Steps.trans harr (.one step_inLoop)) harr2⟩
  | exit id => exact ⟨_, a₁, w₁, ⟨S1, μ1, τ1, Γ1, hq, hi1⟩, .pass (x := .inLoop c) rfl (fun _ _ => .inl (by simp)) harr⟩
  | goto l => exact ⟨_, a₁, w₁, ⟨S1, μ1, τ1, Γ1, hq, hi1⟩, .pass (x := .inLoop c) rfl (fun _ _ => .inl (by simp)) harr⟩
  | ret => exact ⟨_, a₁, w₁, ⟨S1, μ1, τ1, Γ1, hq, hi1⟩, .pass (x := .inLoop c) rfl (fun _ _ => .inl (by simp)) harr⟩
  | panic ch => exact ⟨_, a₁, w₁, ⟨S1, μ1, τ1, Γ1, hq, hi1⟩, .pass (x := .inLoop c) rfl (fun _ _ => .inl (by simp)) harr⟩
  | outgrown => exact ⟨_, a₁, w₁, ⟨S1, μ1, τ1, Γ1, hq, hi1⟩, .pass (x := .inLoop c) rfl (fun _ _ => .inl (by simp)) harr⟩

/-- The claims in sight are among those that there are. -/
def WeakOk (τ : List (Nat × AV)) : List (Nat × AV) → Prop
  | [] => True
  | (d, v) :: r => look τ d = v ∧ WeakOk τ r
theorem WeakOk.all {τ : List (Nat × AV)} : ∀ {l : List (Nat × AV)}, WeakOk τ l → ∀ p ∈ l, look τ p.1 = p.2
  | [], _, _, hp => by cases hp
  | (d, v) :: r, h, p, hp => by
    rcases List.mem_cons.1 hp with e | hp
    · subst e; exact h.1
    · exact h.2.all p hp
theorem RunC.w {c : Code} {τ : List (Nat × AV)} (τ' : List (Nat × AV)) {Γ : List Ob} {Q : PQ} (hw : WeakOk τ τ') (h : RunC P N c τ' Γ Q) : RunC P N c τ Γ Q := RunC.weak τ' hw.all h
theorem RunL.w {c : Code} {τ : List (Nat × AV)} (τ' : List (Nat × AV)) {Γ : List Ob} {Q : PQ} (hw : WeakOk τ τ') (h : RunL P N c τ' Γ Q) : RunL P N c τ Γ Q :=
  fun S0 μ0 w0 S μ a w hi => h S0 μ0 w0 S μ a w ⟨hi.fr, hi.wi, hi.ci.weak hw.all, hi.tsz, hi.dfr⟩

/-- A loop by its plain function: 'step' with rounds k from state s gives r; 'good' is what is known of r behind the loop. -/
theorem RunL.fuel {c : Code} {Q : PQ} {σ ρ : Type} (step : Nat → σ → Option ρ) (good : ρ → Prop) (τf : σ → List (Nat × AV)) (Γf : σ → List Ob) (h0 : ∀ s, step 0 s = none)
    (h : ∀ (k : Nat) (s : σ) (r : ρ), (∀ (s' : σ), step k s' = some r → RunL P N c (τf s') (Γf s') Q) → step (k + 1) s = some r → good r → RunC P N c (τf s) (Γf s) (thenQ (fun τ Γ => RunL P N c τ Γ Q) Q)) :
    ∀ (k : Nat) (s : σ) (r : ρ), step k s = some r → good r → RunL P N c (τf s) (Γf s) Q := by
  intro k
  induction k with
  | zero => intro s r hs; rw [h0] at hs; cases hs
  | succ k ih => intro s r hs hg; exact .step (h k s r (fun s' hs' => ih s' r hs' hg) hs hg)

section small
variable {τ : List (Nat × AV)} {Γ : List Ob} {K : List (Nat × AV) → List Ob → Prop} {Q : PQ} {all : Array Oper}
theorem ROps.nilT (h : K τ Γ) : ROps P N all [] τ Γ (thenQ K Q) := ROps.nil h
theorem ROps.nilN (h : K τ Γ) : ROps P N all [] τ Γ (np (thenQ K Q)) := ROps.nil h
theorem RunC.skipT (h : K τ Γ) : RunC P N .skip τ Γ (thenQ K Q) := RunC.skip h
theorem thenQ_ret (h : Q .ret τ Γ) : thenQ K Q .ret τ Γ := h
theorem thenQ_exit {i : Nat} (h : Q (.exit i) τ Γ) : thenQ K Q (.exit i) τ Γ := h
theorem thenQ_normal (h : K τ Γ) : thenQ K Q .normal τ Γ := h
theorem blockQ_ret {i : Nat} (h : Q .ret τ Γ) : blockQ i Q .ret τ Γ := h
theorem blockQ_normal {i : Nat} (h : Q .normal τ Γ) : blockQ i Q .normal τ Γ := h
theorem blockQ_exit {i : Nat} (h : Q .normal τ Γ) : blockQ i Q (.exit i) τ Γ := by simp only [blockQ, if_true]; exact h
theorem blockQ_exit' {i j : Nat} (e : ¬ j = i) (h : Q (.exit j) τ Γ) : blockQ i Q (.exit j) τ Γ := by simp only [blockQ]; rw [if_neg e]; exact h
end small
end
end Go.AM
