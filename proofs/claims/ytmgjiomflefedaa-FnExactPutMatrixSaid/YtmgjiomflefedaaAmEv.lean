/- The abstract layer, sixth part: calls. -/
import Derived.Test.YtmgjiomflefedaaAmMem
namespace Go.AM

section
variable {P : Program} {o : Oper} {τ : List (Nat × AV)} {Γ : List Ob}

/-- Seen with the live own objects lent: what is claimed of the value when their blocks count as settled. -/
structure Lent (S : Snap) (μ : List Mu) (Γ : List Ob) (w : World) (Sb : Snap) : Prop where
  ext : SExt S Sb
  own : ∀ (p ver : Nat) (l : List AV) (m : Mu) (b : Nat), Γ[p]? = some ⟨ver, some l⟩ → μ[p]? = some m → m.blk = some b → ∃ cs, Sb b = some cs ∧ VP S μ l cs.toList
def Bor (Γ : List Ob) (a a' : AV) : Prop := ∀ (S : Snap) (μ : List Mu) (Γ2 : List Ob) (w : World) (Sb : Snap) (v : Value), LiveLe Γ Γ2 → WI S μ Γ2 w → Lent S μ Γ2 w Sb → V S μ a v → V Sb [] a' v
def Bors (Γ : List Ob) (l l' : List AV) : Prop := ∀ (S : Snap) (μ : List Mu) (Γ2 : List Ob) (w : World) (Sb : Snap) (vs : List Value), LiveLe Γ Γ2 → WI S μ Γ2 w → Lent S μ Γ2 w Sb → VL S μ l vs → VL Sb [] l' vs
def BorP (Γ : List Ob) (l l' : List AV) : Prop := ∀ (S : Snap) (μ : List Mu) (Γ2 : List Ob) (w : World) (Sb : Snap) (vs : List Value), LiveLe Γ Γ2 → WI S μ Γ2 w → Lent S μ Γ2 w Sb → VP S μ l vs → VP Sb [] l' vs
theorem Bors.p {l l' : List AV} (h : Bors Γ l l') : BorP Γ l l' := by
  intro S μ Γ2 w Sb vs hΓ hw hL hv
  have h1 := h S μ Γ2 w Sb _ hΓ hw hL hv.vl_take
  have h2 := VP.app h1 (l' := []) (vs' := vs.drop l.length) (by simp only [VP])
  simpa using h2
theorem Bor.pure {a : AV} (ha : a.lt 0 = true) : Bor Γ a a := fun _ _ _ _ _ v _ _ hL hv => V.mono hL.ext (MuLe.refl 0 []) a v (V.pure ha hv)
theorem Bors.pure {l : List AV} (ha : AV.lts 0 l = true) : Bors Γ l l := fun _ _ _ _ _ v _ _ hL hv => VL.mono hL.ext (MuLe.refl 0 []) l v (VL.pure ha hv)
theorem Bors.nil : Bors Γ [] [] := Bors.pure rfl
theorem Bors.cons {a a' : AV} {l l' : List AV} (h : Bor Γ a a') (k : Bors Γ l l') : Bors Γ (a :: l) (a' :: l') := by
  intro S μ Γ2 w Sb vs hΓ hw hL hv
  cases vs with
  | nil => simp only [VL] at hv
  | cons v vs =>
    simp only [VL] at hv ⊢
    exact ⟨h S μ Γ2 w Sb v hΓ hw hL hv.1, k S μ Γ2 w Sb vs hΓ hw hL hv.2⟩
theorem Bor.agg {l l' : List AV} (h : Bors Γ l l') : Bor Γ (.agg l) (.agg l') := by
  intro S μ Γ2 w Sb v hΓ hw hL hv
  simp only [V] at hv ⊢
  obtain ⟨cs, h1, h2⟩ := hv
  exact ⟨cs, h1, h S μ Γ2 w Sb _ hΓ hw hL h2⟩
theorem Bor.tup {l l' : List AV} (h : Bors Γ l l') : Bor Γ (.tup l) (.tup l') := by
  intro S μ Γ2 w Sb v hΓ hw hL hv
  simp only [V] at hv ⊢
  obtain ⟨cs, h1, h2⟩ := hv
  exact ⟨cs, h1, h S μ Γ2 w Sb _ hΓ hw hL h2⟩
theorem Bor.oref {p ver off n : Nat} {l l' : List AV} (hp : Γ[p]? = some ⟨ver, some l⟩) (h : BorP Γ l l') {r : List AV} (hr : l'.drop off = r) : Bor Γ (.oref p ver off n) (.sl n r) := by
  intro S μ Γ2 w Sb v hΓ hw hL hv
  simp only [V] at hv ⊢
  obtain ⟨m, a, cap, h1, h2, h3, h4⟩ := hv
  have hp2 := hΓ.2 p ver l hp
  have h5 := h4 (hw.ver p _ m hp2 h1)
  cases hb : m.blk with
  | none =>
    rw [hb] at h5
    simp only at h5
    obtain ⟨rfl, rfl, rfl⟩ := h5
    have h6 := hw.own p ver l m hp2 h1
    unfold OwnAt at h6
    rw [hb] at h6
    simp only at h6
    subst h6
    refine ⟨a, 0, h3, Nat.le_refl _, .inl ?_⟩
    have := h S μ Γ2 w Sb [] hΓ hw hL (by simp only [VP])
    cases l' with
    | nil => simpa using hr.symm
    | cons x l' => simp only [VP] at this
  | some b =>
    rw [hb] at h5
    simp only at h5
    obtain ⟨rfl, h6, _⟩ := h5
    obtain ⟨cs, k1, k2⟩ := hL.own p ver l m b hp2 h1 hb
    refine ⟨_, cap, h3, h6, .inr ⟨b, off, cs, rfl, k1, ?_⟩⟩
    rw [← hr]
    exact (h S μ Γ2 w Sb _ hΓ hw hL k2).drop off
theorem Bor.optr {p ver off : Nat} {l l' : List AV} (hp : Γ[p]? = some ⟨ver, some l⟩) (h : BorP Γ l l') {r : List AV} (hr : l'.drop off = r) : Bor Γ (.optr p ver off) (.ptr r) := by
  intro S μ Γ2 w Sb v hΓ hw hL hv
  simp only [V] at hv ⊢
  obtain ⟨m, a, h1, h2, h3, h4⟩ := hv
  have hp2 := hΓ.2 p ver l hp
  obtain ⟨b, hb, rfl⟩ := h4 (hw.ver p _ m hp2 h1)
  obtain ⟨cs, k1, k2⟩ := hL.own p ver l m b hp2 h1 hb
  refine ⟨b, off, cs, h3, k1, ?_⟩
  rw [← hr]
  exact (h S μ Γ2 w Sb _ hΓ hw hL k2).drop off
theorem Bor.nilsl : Bor Γ .nilsl (.sl 0 []) := by
  intro S μ Γ2 w Sb v _ _ _ hv
  simp only [V] at hv ⊢
  exact ⟨none, 0, hv, Nat.le_refl _, .inl trivial⟩
theorem Bor.fn {g : Fn} {p p' q q' : List AV} (h : Bors Γ p p') (k : Bors Γ q q') : Bor Γ (.fn g p q) (.fn g p' q') := by
  intro S μ Γ2 w Sb v hΓ hw hL hv
  simp only [V] at hv ⊢
  obtain ⟨ps, qs, h1, h2, h3⟩ := hv
  exact ⟨ps, qs, h1, h S μ Γ2 w Sb _ hΓ hw hL h2, k S μ Γ2 w Sb _ hΓ hw hL h3⟩

open Classical in
/-- The snapshot in which the live own objects are lent. -/
noncomputable def lend (S : Snap) (μ : List Mu) (Γ : List Ob) (w : World) : Snap := fun b =>
  match S b with
  | some c => some c
  | none => if ∃ (p ver : Nat) (l : List AV) (m : Mu), Γ[p]? = some ⟨ver, some l⟩ ∧ μ[p]? = some m ∧ m.blk = some b then
      match w.heap[b]? with
      | some (.cells cs _ _) => some cs
      | _ => none
    else none
theorem lend_some {S : Snap} {μ : List Mu} {Γ : List Ob} {w : World} {b : Nat} {c : Array Value} (h : lend S μ Γ w b = some c) :
    S b = some c ∨ ((∃ (p ver : Nat) (l : List AV) (m : Mu), Γ[p]? = some ⟨ver, some l⟩ ∧ μ[p]? = some m ∧ m.blk = some b) ∧ ∃ T fz, w.heap[b]? = some (.cells c T fz)) := by
  unfold lend at h
  split at h
  · rename_i c' e; rw [e]; exact .inl h
  · split at h
    · rename_i hex
      split at h
      · rename_i cs T fz e; simp at h; subst h; exact .inr ⟨hex, T, fz, e⟩
      · cases h
    · cases h
theorem lend_lent {S : Snap} {μ : List Mu} {Γ : List Ob} {w : World} (hw : WI S μ Γ w) : Lent S μ Γ w (lend S μ Γ w) := by
  refine ⟨fun b c hb => by simp [lend, hb], fun p ver l m b hp hm hb => ?_⟩
  obtain ⟨cs, T, e1, e2, e3, e4⟩ := own_cells hw hp hm hb
  refine ⟨cs, ?_, e3⟩
  have hex : ∃ (p ver : Nat) (l : List AV) (m : Mu), Γ[p]? = some ⟨ver, some l⟩ ∧ μ[p]? = some m ∧ m.blk = some b := ⟨p, ver, l, m, hp, hm, hb⟩
  unfold lend
  rw [e4]
  simp only
  rw [if_pos hex, e1]
theorem lend_snap {S : Snap} {μ : List Mu} {Γ : List Ob} {w : World} (hw : WI S μ Γ w) : WI (lend S μ Γ w) [] [] w := by
  refine ⟨fun b c hb => ?_, rfl, by simp, by simp, by simp⟩
  rcases lend_some hb with h | ⟨_, T, fz, h⟩
  · exact hw.snap b c h
  · exact ⟨T, fz, h⟩

/-- A contract whose new objects are settled. -/
theorem Ev.settle {f : FuncId} {args : List AV} {r r' : AV} {Γ' : List Ob} (h : Ev P f args [] r Γ') (hb : Bor Γ' r r') : Ev P f args [] r' [] := by
  intro S μ w vs hw ha
  refine (h S μ w vs hw ha).mono ?_
  rintro e w' ⟨v, S', μ', rfl, hv, hw', hfr⟩
  have hμ : μ = [] := by have := hw.len; simpa using this
  subst hμ
  refine ⟨v, lend S' μ' Γ' w', [], rfl, hb S' μ' Γ' w' _ v (LiveLe.refl _) hw' (lend_lent hw') hv, lend_snap hw', ?_⟩
  refine ⟨hfr.ext.trans (lend_lent hw').ext, fun i m hi => by simp at hi, fun i m b hi => by simp at hi, hfr.keep, hfr.size, hfr.os, hfr.tape, hfr.output, fun b c hb => ?_⟩
  rcases lend_some hb with h | ⟨⟨p, ver, l, m, _, hm, hb⟩, _⟩
  · exact hfr.sf b c h
  · rcases hfr.new p m b hm hb with ⟨m0, h0, _⟩ | h
    · simp at h0
    · exact .inr h

/- No claim of the value hangs on what is settled. -/
mutual
def AV.nos : AV → Bool
  | .sl _ l => l.isEmpty
  | .agg l => AV.noss l
  | .tup l => AV.noss l
  | .ptr _ => false
  | .fn _ p q => AV.noss p && AV.noss q
  | _ => true
def AV.noss : List AV → Bool
  | [] => true
  | a :: l => AV.nos a && AV.noss l
end
mutual
theorem V.noS {S S' : Snap} {μ : List Mu} : ∀ (a : AV) (v : Value), a.nos = true → V S μ a v → V S' μ a v
  | .x _, _, _, h => by simpa only [V] using h
  | .f _ _, _, _, h => by simpa only [V] using h
  | .cx _ _ _, _, _, h => by simpa only [V] using h
  | .bt _ _ _, _, _, h => by simpa only [V] using h
  | .any, _, _, _ => by simp only [V]
  | .sl n l, v, hl, h => by
    simp only [AV.nos, List.isEmpty_iff] at hl
    subst hl
    simp only [V] at h ⊢
    obtain ⟨a, cap, h1, h2, _⟩ := h
    exact ⟨a, cap, h1, h2, .inl trivial⟩
  | .agg l, v, hl, h => by
    simp only [AV.nos] at hl
    simp only [V] at h ⊢
    obtain ⟨cs, h1, h2⟩ := h
    exact ⟨cs, h1, VL.noS l _ hl h2⟩
  | .tup l, v, hl, h => by
    simp only [AV.nos] at hl
    simp only [V] at h ⊢
    obtain ⟨cs, h1, h2⟩ := h
    exact ⟨cs, h1, VL.noS l _ hl h2⟩
  | .ptr _, _, hl, _ => by simp [AV.nos] at hl
  | .fn g p q, v, hl, h => by
    simp only [AV.nos, Bool.and_eq_true] at hl
    simp only [V] at h ⊢
    obtain ⟨ps, qs, h1, h2, h3⟩ := h
    exact ⟨ps, qs, h1, VL.noS p _ hl.1 h2, VL.noS q _ hl.2 h3⟩
  | .oref _ _ _ _, _, _, h => by simpa only [V] using h
  | .optr _ _ _, _, _, h => by simpa only [V] using h
theorem VL.noS {S S' : Snap} {μ : List Mu} : ∀ (l : List AV) (vs : List Value), AV.noss l = true → VL S μ l vs → VL S' μ l vs
  | [], [], _, _ => by simp only [VL]
  | a :: l, v :: vs, hl, h => by
    simp only [AV.noss, Bool.and_eq_true] at hl
    simp only [VL] at h ⊢
    exact ⟨V.noS a v hl.1 h.1, VL.noS l vs hl.2 h.2⟩
  | [], _ :: _, _, h => by simp only [VL] at h
  | _ :: _, [], _, h => by simp only [VL] at h
end
theorem VP.noS {S S' : Snap} {μ : List Mu} {l : List AV} {vs : List Value} (hl : AV.noss l = true) (h : VP S μ l vs) : VP S' μ l vs := by
  have h1 := VL.noS (S' := S') l _ hl h.vl_take
  have h2 := VP.app h1 (l' := []) (vs' := vs.drop l.length) (by simp only [VP])
  simpa using h2

/-- The operation is a call of function f with these values. -/
def CallAs (P : Program) (o : Oper) (τ : List (Nat × AV)) (f : FuncId) (A : List AV) : Prop :=
  ∀ (S : Snap) (μ : List Mu) (a : Act) (w : World), (∀ x ∈ o.op.operands, V S μ (ev τ x) (a.eval x)) → ∃ vs : Array Value, (execOp a.eval o).run P w = .ok (.enter f vs) w ∧ VL S μ A vs.toList
theorem VL_evs {S : Snap} {μ : List Mu} {τ : List (Nat × AV)} {a : Act} : ∀ (l : List Operand), (∀ x ∈ l, V S μ (ev τ x) (a.eval x)) → VL S μ (l.map (ev τ)) (l.map a.eval)
  | [], _ => by simp only [List.map_nil, VL]
  | x :: l, h => by simp only [List.map_cons, VL]; exact ⟨h x (by simp), VL_evs l fun y hy => h y (by simp [hy])⟩
theorem CallAs.func {f : FuncId} {args : Array Operand} {tys : Array TypeId} {A : List AV} (hc : ∀ vs w, (callFunc f vs).run P w = .ok (.enter f vs) w) (ho : o.op = .call { callee := .value (.func f), args := args, argTypes := tys }) (hA : args.toList.map (ev τ) = A) : CallAs P o τ f A := by
  intro S μ a w h
  refine ⟨args.map a.eval, ?_, ?_⟩
  · simp [execOp, ho, resolve, Act.eval, Deferred.ofValue, invoke, hc]
  · rw [← hA, Array.toList_map]
    exact VL_evs args.toList fun x hx => h x (by simp [ho, Op.operands, Call.operands]; exact .inr (by simpa using hx))
theorem CallAs.fn {x : Operand} {f : FuncId} {args : Array Operand} {tys : Array TypeId} {p q A B : List AV} (hc : ∀ vs w, (callFunc f vs).run P w = .ok (.enter f vs) w) (ho : o.op = .call { callee := .value x, args := args, argTypes := tys }) (hx : ev τ x = .fn (.func f) p q)
    (hA : args.toList.map (ev τ) = A) (hB : p ++ A ++ q = B) : CallAs P o τ f B := by
  intro S μ a w h
  have k1 := opnd h (x := x) (by simp [ho, Op.operands, Call.operands]) hx
  simp only [V] at k1
  obtain ⟨ps, qs, k1, k2, k3⟩ := k1
  refine ⟨ps ++ args.map a.eval ++ qs, ?_, ?_⟩
  · simp [execOp, ho, resolve, Deferred.ofValue, k1, invoke, hc]
  · rw [← hB, ← hA]
    simp only [Array.toList_append, Array.toList_map]
    exact VL.app (VL.app k2 (VL_evs args.toList fun x hx => h x (by simp [ho, Op.operands, Call.operands]; exact .inr (by simpa using hx)))) k3

/-- From what a pure call leaves. -/
theorem FrI.toGrow {S S' : Snap} {μ' : List Mu} {w w' : World} (h : FrI S [] w S' μ' w') : Grow w w' :=
  ⟨h.size, fun b hb => h.keep b hb (fun i m hi => by simp at hi), h.os, h.tape, h.output⟩
theorem WI.lift {S S' : Snap} {μ : List Mu} {Γ : List Ob} {w w' : World} (h : WI S μ Γ w) (hg : Grow w w') (hS : SExt S S') (hF : SFresh w.heap.size S S') (hs : SnapOK S' w') : WI S' μ Γ w' := by
  have h' := h.grow hg
  refine ⟨hs, h'.len, h'.ver, fun p ver l m hp hm => ?_, h'.sep⟩
  have h0 := h.own p ver l m hp hm
  have h1 := h'.own p ver l m hp hm
  unfold OwnAt at *
  split at h1
  · exact h1
  · rename_i b hb
    rw [hb] at h0
    obtain ⟨e1, c0, T0, e0, _⟩ := h0
    have hlt := (Array.getElem?_eq_some_iff.1 e0).1
    obtain ⟨k1, c, T, k2, k3, k4⟩ := h1
    refine ⟨?_, c, T, k2, k3, VP.mono hS (MuLe.refl 0 μ) l _ k4⟩
    cases hsb : S' b with
    | none => rfl
    | some c' =>
      rcases hF b c' hsb with h | h
      · rw [e1] at h; cases h
      · omega
/-- A call that makes nothing that outlives it but its settled result. -/
theorem TOp.call {f : FuncId} {A : List AV} {r : AV} (hc : CallAs P o τ f A) (hA : AV.lts 0 A = true) (hr : r.lt 0 = true) (hev : Ev P f A [] r []) : TOp P o τ Γ r [] := by
  intro S μ Γ2 a w _ _ hw h next Q hn
  obtain ⟨vs, hrun, hvs⟩ := hc S μ a w h
  unfold Oper.wp
  rw [hrun, Oper.upon_enter]
  refine (hev S [] w vs ⟨hw.snap, rfl, by simp, by simp, by simp⟩ (VL.pure hA hvs)).mono ?_
  rintro e w' ⟨v, S', μ', rfl, hv, hw', hfr⟩
  have hg := hfr.toGrow
  exact hn S' μ v w' hfr.ext hfr.sf (MuStep.refl _ _ _) (hw.lift hg hfr.ext hfr.sf hw'.snap) (V.pure hr hv) hg
/-- A call to which own objects are lent; its result hangs on nothing settled. -/
theorem TOp.callB {f : FuncId} {A A' : List AV} {r : AV} (hc : CallAs P o τ f A) (hA : Bors Γ A A') (hr : r.lt 0 = true) (hs : r.nos = true) (hev : Ev P f A' [] r []) : TOp P o τ Γ r [] := by
  intro S μ Γ2 a w hL _ hw h next Q hn
  obtain ⟨vs, hrun, hvs⟩ := hc S μ a w h
  unfold Oper.wp
  rw [hrun, Oper.upon_enter]
  have hle := lend_lent hw
  refine (hev (lend S μ Γ2 w) [] w vs (lend_snap hw) (hA S μ Γ2 w _ vs.toList hL hw hle hvs)).mono ?_
  rintro e w' ⟨v, S', μ', rfl, hv, hw', hfr⟩
  have hg := hfr.toGrow
  exact hn S μ v w' (SExt.refl S) (SFresh.refl _ S) (MuStep.refl _ _ _) (hw.grow hg) (V.pure hr (V.noS r v hs hv)) hg
/-- What a call leaves in the names that its objects are given: callee's name i is tgt[i], its version less there by the shift. -/
def backMu (tgt : List (Nat × Nat)) (μc : List Mu) (μ : List Mu) : List Mu :=
  (tgt.zip μc).foldl (fun μ p => μ.set p.1.1 { p.2 with ver := p.2.ver + p.1.2 }) μ
def backOb (tgt : List (Nat × Nat)) (Γc : List Ob) (Γ : List Ob) : List Ob :=
  (tgt.zip Γc).foldl (fun Γ p => Γ.set p.1.1 ⟨p.2.ver + p.1.2, p.2.cells.map (AV.rens (sigma tgt))⟩) Γ
theorem foldl_set_ne {α β : Type} {f : β → Nat} {g : β → α} {i : Nat} : ∀ {l : List β} {m : List α}, (∀ p ∈ l, f p ≠ i) → (l.foldl (fun m p => m.set (f p) (g p)) m)[i]? = m[i]?
  | [], _, _ => rfl
  | p :: l, m, h => by
    simp only [List.foldl_cons]
    rw [foldl_set_ne fun q hq => h q (by simp [hq]), List.getElem?_set_ne (h p (by simp))]
theorem foldl_set_length {α β : Type} {f : β → Nat} {g : β → α} : ∀ {l : List β} {m : List α}, (l.foldl (fun m p => m.set (f p) (g p)) m).length = m.length
  | [], _ => rfl
  | p :: l, m => by simp only [List.foldl_cons]; rw [foldl_set_length]; simp
theorem foldl_set_at {α β : Type} {f : β → Nat} {g : β → α} : ∀ {l : List β} {m : List α} {j : Nat} {p : β}, (l.map f).Nodup → l[j]? = some p → f p < m.length → (l.foldl (fun m p => m.set (f p) (g p)) m)[f p]? = some (g p)
  | [], _, _, _, _, h, _ => by simp at h
  | q :: l, m, j, p, hn, hj, hlt => by
    simp only [List.map_cons, List.nodup_cons] at hn
    simp only [List.foldl_cons]
    cases j with
    | zero =>
      simp at hj; subst hj
      rw [foldl_set_ne fun r hr e => hn.1 (by rw [← e]; exact List.mem_map_of_mem hr)]
      simp [hlt]
    | succ j =>
      simp at hj
      exact foldl_set_at hn.2 hj (by simpa using hlt)

/-- ANY CALL: own objects are handed to it by name (sel: live ones, each seen from its version on), what it makes gets dead names (ns). -/
theorem ROp.call {N : Nat} {f : FuncId} {A args : List AV} {Γc Γc' : List Ob} {r : AV} {sel ns : List (Nat × Nat)} {K : List (Nat × AV) → List Ob → Prop}
    (hc : CallAs P o τ f A) (hd : dstLt N o = true) (hsel : SelOk sel Γ Γc) (hlive : ∀ p ∈ sel, ∃ ver l, Γ[p.1]? = some ⟨ver, some l⟩) (hA : AV.rens (sigma sel) args = A) (hlt : AV.lts sel.length args = true)
    (hev : Ev P f args Γc r Γc') (hlen : Γc'.length = sel.length + ns.length) (hns : ∀ p ∈ ns, ∃ ver, Γ[p.1]? = some ⟨ver, none⟩ ∧ p.2 = ver + 1) (hnd : ((sel ++ ns).map (·.1)).Nodup)
    (hK : K (put τ o.dst (r.ren (sigma (sel ++ ns)))) (backOb (sel ++ ns) Γc' Γ)) : ROp P N o τ Γ K := by
  intro S0 μ0 w0 S μ a w hi next Q hn
  obtain ⟨vs, hrun, hvs⟩ := hc S μ a w fun x _ => hi.ci.ev x
  unfold Oper.wp
  rw [hrun, Oper.upon_enter]
  have hw := hi.wi
  have hσ := shift_selMu hw hsel
  rw [← hA] at hvs
  refine (hev S (selMu sel μ) w vs (hw.sel hsel) (VL.unren hσ args _ hlt hvs)).mono ?_
  rintro e w' ⟨v, S', μ', rfl, hv, hw', hfr⟩
  have hl1 : μ'.length = (sel ++ ns).length := by rw [hw'.len, hlen, List.length_append]
  -- where callee's name i lies
  have htl : ∀ p ∈ sel ++ ns, p.1 < μ.length := by
    intro p hp
    rw [hw.len]
    rcases List.mem_append.1 hp with hp | hp
    · obtain ⟨ver, l, h⟩ := hlive p hp; exact lt_of_getElem? h
    · obtain ⟨ver, h, _⟩ := hns p hp; exact lt_of_getElem? h
  have hzip : ∀ {α : Type} (l : List α), l.length = (sel ++ ns).length → (((sel ++ ns).zip l).map (fun p => p.1.1)) = (sel ++ ns).map (·.1) := by
    intro α l hl
    have : (((sel ++ ns).zip l).map (fun p => p.1.1)) = (((sel ++ ns).zip l).map (·.1)).map (·.1) := by rw [List.map_map]; rfl
    rw [this, List.map_fst_zip (by omega)]
  have hat : ∀ (i : Nat) (p : Nat × Nat) (m' : Mu), (sel ++ ns)[i]? = some p → μ'[i]? = some m' → (backMu (sel ++ ns) μ' μ)[p.1]? = some { m' with ver := m'.ver + p.2 } := by
    intro i p m' hp hm'
    have hz : ((sel ++ ns).zip μ')[i]? = some (p, m') := by rw [List.getElem?_zip_eq_some]; exact ⟨hp, hm'⟩
    exact foldl_set_at (f := fun p : (Nat × Nat) × Mu => p.1.1) (g := fun p => ({ p.2 with ver := p.2.ver + p.1.2 } : Mu)) (by rw [hzip μ' hl1]; exact hnd) hz (htl p (List.mem_of_getElem? hp))
  have hatO : ∀ (i : Nat) (p : Nat × Nat) (g' : Ob), (sel ++ ns)[i]? = some p → Γc'[i]? = some g' → (backOb (sel ++ ns) Γc' Γ)[p.1]? = some ⟨g'.ver + p.2, g'.cells.map (AV.rens (sigma (sel ++ ns)))⟩ := by
    intro i p g' hp hg'
    have hz : ((sel ++ ns).zip Γc')[i]? = some (p, g') := by rw [List.getElem?_zip_eq_some]; exact ⟨hp, hg'⟩
    exact foldl_set_at (f := fun p : (Nat × Nat) × Ob => p.1.1) (g := fun p => (⟨p.2.ver + p.1.2, p.2.cells.map (AV.rens (sigma (sel ++ ns)))⟩ : Ob)) (by rw [hzip Γc' (by rw [← hw'.len, hl1])]; exact hnd) hz (by rw [← hw.len]; exact htl p (List.mem_of_getElem? hp))
  have hnot : ∀ (i : Nat), (∀ p ∈ sel ++ ns, p.1 ≠ i) → (backMu (sel ++ ns) μ' μ)[i]? = μ[i]? ∧ (backOb (sel ++ ns) Γc' Γ)[i]? = Γ[i]? := by
    intro i hi
    exact ⟨foldl_set_ne fun p hp => hi p.1 (List.of_mem_zip hp).1, foldl_set_ne fun p hp => hi p.1 (List.of_mem_zip hp).1⟩
  have hcase : ∀ i : Nat, (∀ p ∈ sel ++ ns, p.1 ≠ i) ∨ ∃ (j : Nat) (p : Nat × Nat), (sel ++ ns)[j]? = some p ∧ p.1 = i := by
    intro i
    by_cases h : ∃ p ∈ sel ++ ns, p.1 = i
    · obtain ⟨p, hp, e⟩ := h
      obtain ⟨j, hj, e'⟩ := List.mem_iff_getElem.1 hp
      exact .inr ⟨j, p, by rw [List.getElem?_eq_getElem hj, e'], e⟩
    · exact .inl fun p hp e => h ⟨p, hp, e⟩
  have hselAt : ∀ (j : Nat) (p : Nat × Nat), j < sel.length → (sel ++ ns)[j]? = some p → sel[j]? = some p ∧ sigma sel j = p := by
    intro j p hj hp
    rw [List.getElem?_append_left hj] at hp
    exact ⟨hp, by simp [sigma, List.getD, hp]⟩
  have hnsAt : ∀ (j : Nat) (p : Nat × Nat), sel.length ≤ j → (sel ++ ns)[j]? = some p → p ∈ ns := by
    intro j p hj hp
    rw [List.getElem?_append_right hj] at hp
    exact List.mem_of_getElem? hp
  have hμ'at : ∀ (j : Nat) (p : Nat × Nat), (sel ++ ns)[j]? = some p → ∃ m', μ'[j]? = some m' := fun j p hp => getElem?_of_lt (by rw [hl1]; exact lt_of_getElem? hp)
  have hSel : ∀ (j : Nat) (p : Nat × Nat), j < sel.length → (sel ++ ns)[j]? = some p → ∃ m, μ[p.1]? = some m ∧ p.2 ≤ m.ver ∧ (selMu sel μ)[j]? = some { m with ver := m.ver - p.2 } := by
    intro j p hj hp
    have h1 := hσ j hj
    rw [(hselAt j p hj hp).2] at h1
    cases e1 : (selMu sel μ)[j]? with
    | none => rw [e1] at h1; exact h1.elim
    | some m1 =>
      cases e2 : μ[p.1]? with
      | none => rw [e1, e2] at h1; exact h1.elim
      | some m =>
        rw [e1, e2] at h1
        obtain ⟨h2, rfl⟩ := h1
        exact ⟨m, rfl, h2, rfl⟩
  have hSelMu : ∀ (j : Nat) (m1 : Mu), (selMu sel μ)[j]? = some m1 → ∃ p m, sel[j]? = some p ∧ μ[p.1]? = some m ∧ m1.blk = m.blk := by
    intro j m1 hm1
    have hj : j < sel.length := by have := lt_of_getElem? hm1; rwa [length_selMu] at this
    obtain ⟨p, hp⟩ := getElem?_of_lt hj
    have hp' : (sel ++ ns)[j]? = some p := by rw [List.getElem?_append_left hj]; exact hp
    obtain ⟨m, h1, _, h3⟩ := hSel j p hj hp'
    rw [h3] at hm1; simp at hm1; subst hm1
    exact ⟨p, m, hp, h1, rfl⟩
  have hM : MuLe w.heap.size μ (backMu (sel ++ ns) μ' μ) := by
    intro i m hm
    rcases hcase i with h | ⟨j, p, hp, rfl⟩
    · exact ⟨m, by rw [(hnot i h).1]; exact hm, Nat.le_refl _, fun _ => rfl, fun _ hb => .inl hb⟩
    · obtain ⟨m', hm'⟩ := hμ'at j p hp
      refine ⟨_, hat j p m' hp hm', ?_⟩
      rcases Nat.lt_or_ge j sel.length with hj | hj
      · obtain ⟨m2, k1, k2, k3⟩ := hSel j p hj hp
        rw [hm] at k1; simp at k1; subst k1
        obtain ⟨m3, k4, k5, k6, k7⟩ := hfr.le j _ k3
        rw [hm'] at k4; simp at k4; subst k4
        simp only at k5 k6 k7 ⊢
        refine ⟨by omega, fun e => ?_, fun b hb => k7 b hb⟩
        have := k6 (by omega)
        rw [this]
        simp only
        rw [Nat.sub_add_cancel k2]
      · obtain ⟨ver, k1, k2⟩ := hns p (hnsAt j p hj hp)
        have := hw.ver _ _ m k1 hm
        simp only at this ⊢
        refine ⟨by omega, fun e => by omega, fun b hb => ?_⟩
        rcases hfr.new j m' b hm' hb with ⟨m0, h0, _⟩ | h
        · have := lt_of_getElem? h0; rw [length_selMu] at this; omega
        · exact .inr h
  have hshift : ∀ (i : Nat) (m' : Mu), μ'[i]? = some m' → Shift (sigma (sel ++ ns) i).2 (some m') (backMu (sel ++ ns) μ' μ)[(sigma (sel ++ ns) i).1]? := by
    intro i m' hm'
    obtain ⟨p, hp⟩ : ∃ p, (sel ++ ns)[i]? = some p := getElem?_of_lt (by rw [← hl1]; exact lt_of_getElem? hm')
    have : sigma (sel ++ ns) i = p := by simp [sigma, List.getD, hp]
    rw [this, hat i p m' hp hm']
    exact ⟨by simp, by simp⟩
  have hS : SExt S S' := hfr.ext
  have hlen0 : (backMu (sel ++ ns) μ' μ).length = μ.length := foldl_set_length
  have hlen1 : (backOb (sel ++ ns) Γc' Γ).length = Γ.length := foldl_set_length
  have hg'at : ∀ (j : Nat) (p : Nat × Nat), (sel ++ ns)[j]? = some p → ∃ g', Γc'[j]? = some g' := fun j p hp => getElem?_of_lt (by rw [hlen, ← List.length_append]; exact lt_of_getElem? hp)
  -- an object that is not handed over lies as it did
  have hstay : ∀ (i ver : Nat) (l : List AV) (m : Mu) (b : Nat), (∀ p ∈ sel ++ ns, p.1 ≠ i) → Γ[i]? = some ⟨ver, some l⟩ → μ[i]? = some m → m.blk = some b → b < w.heap.size ∧ w'.heap[b]? = w.heap[b]? ∧ S' b = none := by
    intro i ver l m b hno hg hm hb
    obtain ⟨cs, T, e1, e2, e3, e4⟩ := own_cells hw hg hm hb
    have hlt := (Array.getElem?_eq_some_iff.1 e1).1
    refine ⟨hlt, hfr.keep b hlt fun j m1 hm1 hb1 => ?_, ?_⟩
    · obtain ⟨p, m2, k1, k2, k3⟩ := hSelMu j m1 hm1
      obtain ⟨ver', l', k4⟩ := hlive p (List.mem_of_getElem? k1)
      have := hw.sep i p.1 _ _ m m2 b hg rfl k4 rfl hm k2 hb (by rw [← k3]; exact hb1)
      exact hno p (List.mem_append.2 (.inl (List.mem_of_getElem? k1))) this.symm
    · cases hs : S' b with
      | none => rfl
      | some c =>
        rcases hfr.sf b c hs with h | h
        · rw [e4] at h; cases h
        · omega
  -- the block of one that was handed over, or made
  have hback : ∀ (j : Nat) (p : Nat × Nat) (m' : Mu) (b : Nat), (sel ++ ns)[j]? = some p → μ'[j]? = some m' → m'.blk = some b → (∃ m ver l, μ[p.1]? = some m ∧ m.blk = some b ∧ Γ[p.1]? = some ⟨ver, some l⟩) ∨ w.heap.size ≤ b := by
    intro j p m' b hp hm' hb
    rcases hfr.new j m' b hm' hb with ⟨m0, h0, h1⟩ | h
    · have hj : j < sel.length := by have := lt_of_getElem? h0; rwa [length_selMu] at this
      obtain ⟨m, k1, _, k3⟩ := hSel j p hj hp
      rw [k3] at h0; simp at h0; subst h0
      obtain ⟨ver, l, k4⟩ := hlive p (List.mem_of_getElem? (hselAt j p hj hp).1)
      exact .inl ⟨m, ver, l, k1, h1, k4⟩
    · exact .inr h
  have hwi : WI S' (backMu (sel ++ ns) μ' μ) (backOb (sel ++ ns) Γc' Γ) w' := by
    refine ⟨hw'.snap, by rw [hlen0, hlen1, hw.len], ?_, ?_, ?_⟩
    · intro i g m hg hm
      rcases hcase i with h | ⟨j, p, hp, rfl⟩
      · rw [(hnot i h).1] at hm; rw [(hnot i h).2] at hg; exact hw.ver i g m hg hm
      · obtain ⟨m', hm'⟩ := hμ'at j p hp
        obtain ⟨g', hg'⟩ := hg'at j p hp
        rw [hat j p m' hp hm'] at hm
        rw [hatO j p g' hp hg'] at hg
        simp at hm hg
        subst hm; subst hg
        have := hw'.ver j g' m' hg' hm'
        simp only; omega
    · intro i ver l m hg hm
      rcases hcase i with h | ⟨j, p, hp, rfl⟩
      · rw [(hnot i h).1] at hm; rw [(hnot i h).2] at hg
        have h0 := hw.own i ver l m hg hm
        unfold OwnAt at h0 ⊢
        split at h0
        · exact h0
        · rename_i b hb
          obtain ⟨k1, k2, k3⟩ := hstay i ver l m b h hg hm hb
          obtain ⟨_, cs, T, e1, e2, e3⟩ := h0
          exact ⟨k3, cs, T, k2.trans e1, e2, VP.mono hS hM l _ e3⟩
      · obtain ⟨m', hm'⟩ := hμ'at j p hp
        obtain ⟨g', hg'⟩ := hg'at j p hp
        rw [hat j p m' hp hm'] at hm
        rw [hatO j p g' hp hg'] at hg
        simp at hm hg
        subst hm
        obtain ⟨_, l', hl', rfl⟩ := hg
        obtain ⟨gv, gc⟩ := g'
        simp only at hl'
        subst hl'
        exact (hw'.own j gv l' m' hg' hm').ren hshift ⟨rfl, rfl⟩
    · intro i i' g g' m m' b hg hs hg' hs' hm hm' hb hb'
      rcases hcase i with h | ⟨j, p, hp, rfl⟩
      · rw [(hnot i h).1] at hm; rw [(hnot i h).2] at hg
        obtain ⟨gv, gc⟩ := g
        obtain ⟨l, rfl⟩ := Option.isSome_iff_exists.1 hs
        rcases hcase i' with h' | ⟨j', p', hp', rfl⟩
        · rw [(hnot i' h').1] at hm'; rw [(hnot i' h').2] at hg'
          exact hw.sep i i' _ _ m m' b hg hs hg' hs' hm hm' hb hb'
        · exfalso
          obtain ⟨m1, hm1⟩ := hμ'at j' p' hp'
          rw [hat j' p' m1 hp' hm1] at hm'; simp at hm'; subst hm'
          have hlt := (hstay i gv l m b h hg hm hb).1
          rcases hback j' p' m1 b hp' hm1 hb' with ⟨m2, ver2, l2, k1, k2, k3⟩ | k
          · have := hw.sep i p'.1 _ _ m m2 b hg rfl k3 rfl hm k1 hb k2
            exact h p' (List.mem_of_getElem? hp') this.symm
          · omega
      · obtain ⟨m1, hm1⟩ := hμ'at j p hp
        obtain ⟨g1, hg1⟩ := hg'at j p hp
        rw [hat j p m1 hp hm1] at hm; simp at hm; subst hm
        rw [hatO j p g1 hp hg1] at hg; simp at hg; subst hg
        rcases hcase i' with h' | ⟨j', p', hp', rfl⟩
        · exfalso
          rw [(hnot i' h').1] at hm'; rw [(hnot i' h').2] at hg'
          obtain ⟨gv, gc⟩ := g'
          obtain ⟨l, rfl⟩ := Option.isSome_iff_exists.1 hs'
          have hlt := (hstay i' gv l m' b h' hg' hm' hb').1
          rcases hback j p m1 b hp hm1 hb with ⟨m2, ver2, l2, k1, k2, k3⟩ | k
          · have := hw.sep i' p.1 _ _ m' m2 b hg' rfl k3 rfl hm' k1 hb' k2
            exact h' p (List.mem_of_getElem? hp) this.symm
          · omega
        · obtain ⟨m1', hm1'⟩ := hμ'at j' p' hp'
          obtain ⟨g1', hg1'⟩ := hg'at j' p' hp'
          rw [hat j' p' m1' hp' hm1'] at hm'; simp at hm'; subst hm'
          rw [hatO j' p' g1' hp' hg1'] at hg'; simp at hg'; subst hg'
          have : j = j' := hw'.sep j j' g1 g1' m1 m1' b hg1 (by simpa using hs) hg1' (by simpa using hs') hm1 hm1' hb hb'
          subst this
          rw [hp] at hp'; simp at hp'; rw [hp']
  have hfr' : FrI S0 μ0 w0 S' (backMu (sel ++ ns) μ' μ) w' := by
    refine ⟨hi.fr.ext.trans hS, hi.fr.le.trans hM hi.fr.size, ?_, ?_, Nat.le_trans hi.fr.size hfr.size, hfr.os.trans hi.fr.os, hfr.tape.trans hi.fr.tape, hfr.output.trans hi.fr.output, ?_⟩
    · intro i m b hm hb
      rcases hcase i with h | ⟨j, p, hp, rfl⟩
      · rw [(hnot i h).1] at hm; exact hi.fr.new i m b hm hb
      · obtain ⟨m', hm'⟩ := hμ'at j p hp
        rw [hat j p m' hp hm'] at hm; simp at hm; subst hm
        rcases hback j p m' b hp hm' hb with ⟨m2, _, _, k1, k2, _⟩ | k
        · exact hi.fr.new p.1 m2 b k1 k2
        · exact .inr (Nat.le_trans hi.fr.size k)
    · intro b hb hno
      have hb' := Nat.lt_of_lt_of_le hb hi.fr.size
      refine (hfr.keep b hb' fun j m1 hm1 hb1 => ?_).trans (hi.fr.keep b hb hno)
      obtain ⟨p, m2, k1, k2, k3⟩ := hSelMu j m1 hm1
      rw [k3] at hb1
      rcases hi.fr.new p.1 m2 b k2 hb1 with ⟨m0, h0, h1⟩ | h
      · exact hno p.1 m0 h0 h1
      · omega
    · intro b c hb
      rcases hfr.sf b c hb with h | h
      · exact hi.fr.sf b c h
      · exact .inr (Nat.le_trans hi.fr.size h)
  refine hn S' _ v w' _ _ hS hK ⟨hfr', hwi, ?_, by rw [put_size]; exact hi.tsz, by rw [put_defers]; exact hi.dfr⟩
  exact (hi.ci.mono hS hM).put (fun d hd' => by rw [hi.tsz]; exact dstLt_spec hd d hd') (V.ren hshift r v hv)
end
end Go.AM
