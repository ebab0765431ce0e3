/- The abstract layer, third part: operations; a region in the order of its text, and one whose order is drawn. -/
import Derived.Test.YtmgjiomflefedaaAmCall
import Derived.StillTail
namespace Go.AM

/-- A dead name becomes an own object that holds these cells, one version up. -/
def fillOb1 (Γ : List Ob) (f : Nat × List AV) : List Ob := match Γ[f.1]? with
  | some g => Γ.set f.1 ⟨g.ver + 1, some f.2⟩
  | none => Γ
def fillOb (Γ : List Ob) (fs : List (Nat × List AV)) : List Ob := fs.foldl fillOb1 Γ
/-- What is live in Γ is so in Γ2. -/
def LiveLe (Γ Γ2 : List Ob) : Prop := Γ2.length = Γ.length ∧ ∀ (i ver : Nat) (l : List AV), Γ[i]? = some ⟨ver, some l⟩ → Γ2[i]? = some ⟨ver, some l⟩
structure MuStep (B : Nat) (fs : List (Nat × List AV)) (μ μ' : List Mu) : Prop where
  le : MuLe B μ μ'
  same : ∀ i, (∀ f ∈ fs, f.1 ≠ i) → μ'[i]? = μ[i]?
  new : ∀ (i : Nat) (m : Mu) (b : Nat), μ'[i]? = some m → m.blk = some b → μ[i]? = some m ∨ B ≤ b
theorem MuStep.refl (B : Nat) (fs : List (Nat × List AV)) (μ : List Mu) : MuStep B fs μ μ := ⟨MuLe.refl B μ, fun _ _ => rfl, fun _ _ _ hm _ => .inl hm⟩
theorem LiveLe.refl (Γ : List Ob) : LiveLe Γ Γ := ⟨rfl, fun _ _ _ h => h⟩

def SFresh (B : Nat) (S S' : Snap) : Prop := ∀ b c, S' b = some c → S b = some c ∨ B ≤ b
theorem SFresh.refl (B : Nat) (S : Snap) : SFresh B S S := fun _ _ h => .inl h

/-- An operation that leaves all that is there as it is, may make own objects of dead names, and gives what is claimed, from the claims on its operands alone. -/
def TOp (P : Program) (o : Oper) (τ : List (Nat × AV)) (Γ : List Ob) (r : AV) (fs : List (Nat × List AV)) : Prop :=
  ∀ S μ Γ2 a w, LiveLe Γ Γ2 → (∀ f ∈ fs, Γ2[f.1]? = Γ[f.1]?) → WI S μ Γ2 w → (∀ x ∈ o.op.operands, V S μ (ev τ x) (a.eval x)) → ∀ (next : Act → World → Prop) (Q : Exit → Act → World → Prop),
    (∀ S' μ' v w', SExt S S' → SFresh w.heap.size S S' → MuStep w.heap.size fs μ μ' → WI S' μ' (fillOb Γ2 fs) w' → V S' μ' r v → Grow w w' → next (a.put o.dst v) w') → o.wp P a w next Q

/-- An operation of whatever make. -/
def ROp (P : Program) (N : Nat) (o : Oper) (τ : List (Nat × AV)) (Γ : List Ob) (K : List (Nat × AV) → List Ob → Prop) : Prop :=
  ∀ S0 μ0 w0 S μ a w, Inv S0 μ0 w0 N S μ τ Γ a w → ∀ (next : Act → World → Prop) (Q : Exit → Act → World → Prop),
    (∀ S' μ' v w' τ' Γ', SExt S S' → K τ' Γ' → Inv S0 μ0 w0 N S' μ' τ' Γ' (a.put o.dst v) w' → next (a.put o.dst v) w') → o.wp P a w next Q

theorem FrI.grow {S0 S S' : Snap} {μ0 μ μ' : List Mu} {w0 w w' : World} {fs : List (Nat × List AV)} (h : FrI S0 μ0 w0 S μ w) (hS : SExt S S') (hF : SFresh w.heap.size S S') (hm : MuStep w.heap.size fs μ μ') (hg : Grow w w') : FrI S0 μ0 w0 S' μ' w' :=
  ⟨h.ext.trans hS, h.le.trans hm.le h.size, fun i m b hi hb => (hm.new i m b hi hb).elim (fun k => h.new i m b k hb) (fun k => .inr (Nat.le_trans h.size k)), fun b hb hk => (hg.block b (Nat.lt_of_lt_of_le hb h.size)).trans (h.keep b hb hk), Nat.le_trans h.size hg.size, hg.os.trans h.os, hg.tape.trans h.tape, hg.output.trans h.output,
    fun b c hb => (hF b c hb).elim (fun k => h.sf b c k) (fun k => .inr (Nat.le_trans h.size k))⟩

theorem CI.put {S : Snap} {μ : List Mu} {τ : List (Nat × AV)} {a : Act} {dst : Option Tmp} {r : AV} {v : Value} (h : CI S μ τ a) (hd : ∀ d, dst = some d → d < a.tmps.size) (hv : V S μ r v) : CI S μ (AM.put τ dst r) (a.put dst v) := by
  cases dst with
  | none => exact h
  | some d =>
    intro t
    simp only [AM.put, look, Act.put]
    by_cases e : d = t
    · subst e
      rw [if_pos rfl]
      have hd' := hd d rfl
      simp only [Array.getD_eq_getD_getElem?, Array.getElem?_setIfInBounds_self_of_lt hd', Option.getD_some]
      exact hv
    · rw [if_neg e]
      simp only [Array.getD_eq_getD_getElem?, Array.getElem?_setIfInBounds_ne e]
      simpa only [Array.getD_eq_getD_getElem?] using h t
theorem put_size (a : Act) (dst : Option Tmp) (v : Value) : (a.put dst v).tmps.size = a.tmps.size := by
  cases dst <;> simp [Act.put]
theorem put_defers (a : Act) (dst : Option Tmp) (v : Value) : (a.put dst v).defers = a.defers := by
  cases dst <;> simp [Act.put]
theorem CI.mono {S S' : Snap} {B : Nat} {μ μ' : List Mu} {τ : List (Nat × AV)} {a : Act} (h : CI S μ τ a) (hS : SExt S S') (hm : MuLe B μ μ') : CI S' μ' τ a :=
  fun t => V.mono hS hm _ _ (h t)

def dstLt (N : Nat) (o : Oper) : Bool := match o.dst with
  | some d => decide (d < N)
  | none => true
theorem dstLt_spec {N : Nat} {o : Oper} (h : dstLt N o = true) (d : Nat) (hd : o.dst = some d) : d < N := by
  simp only [dstLt, hd, decide_eq_true_eq] at h; exact h

theorem TOp.rop {P : Program} {N : Nat} {o : Oper} {τ : List (Nat × AV)} {Γ : List Ob} {r : AV} {fs : List (Nat × List AV)} {K : List (Nat × AV) → List Ob → Prop} (h : TOp P o τ Γ r fs) (hd : dstLt N o = true) (hK : K (put τ o.dst r) (fillOb Γ fs)) : ROp P N o τ Γ K := by
  intro S0 μ0 w0 S μ a w hi next Q hn
  refine h S μ Γ a w (LiveLe.refl Γ) (fun _ _ => rfl) hi.wi (fun x _ => hi.ci.ev x) next Q ?_
  intro S' μ' v w' hS hF hm hw hv hg
  refine hn S' μ' v w' _ _ hS hK ⟨hi.fr.grow hS hF hm hg, hw, ?_, by rw [put_size]; exact hi.tsz, by rw [put_defers]; exact hi.dfr⟩
  exact (hi.ci.mono hS hm.le).put (fun d hd' => by rw [hi.tsz]; exact dstLt_spec hd d hd') hv

/-- Does a guarded operation run, as the claims tell? -/
def wantT (all : Array Oper) (τ : List (Nat × AV)) (o : Oper) : Option Bool :=
  match o.guard with
  | none => some true
  | some (j, want) => match (all[j]?).bind (·.dst) with
    | some d => match look τ d with
      | .x (.bool b) => some (b == want)
      | _ => none
    | none => none

theorem getD_bool {tmps : Array Value} {d : Nat} {b : Bool} (h : tmps.getD d undef = .bool b) : tmps[d]? = some (.bool b) := by
  rw [Array.getD_eq_getD_getElem?] at h
  cases e : tmps[d]? with
  | none => rw [e] at h; simp [undef] at h
  | some v => rw [e] at h; simp at h; rw [h]

theorem wantT_spec {S : Snap} {μ : List Mu} {all : Array Oper} {τ : List (Nat × AV)} {o : Oper} {a : Act} {b : Bool} (h : wantT all τ o = some b)
    (hc : ∀ j want d, o.guard = some (j, want) → (all[j]?).bind (·.dst) = some d → V S μ (look τ d) (a.tmps.getD d undef)) : Region.wanted o (yielded all a.tmps) = b := by
  unfold wantT at h
  unfold Region.wanted
  cases hg : o.guard with
  | none => rw [hg] at h; simpa using h
  | some p =>
    obtain ⟨j, want⟩ := p
    rw [hg] at h
    dsimp only at h ⊢
    cases hd : (all[j]?).bind (·.dst) with
    | none => rw [hd] at h; simp at h
    | some d =>
      rw [hd] at h
      dsimp only at h
      have hv := hc j want d hg hd
      cases hl : look τ d with
      | x v =>
        rw [hl] at h hv
        simp only [V] at hv
        cases v with
        | bool b' =>
          simp at h
          have := getD_bool hv
          simp [yielded, hd, this, ← h]
        | _ => simp at h
      | _ => rw [hl] at h; simp at h

/-- A region's operations, one after another. -/
def wpL (P : Program) (all : Array Oper) (Q : Exit → Act → World → Prop) (C : World → Prop) : List Oper → Act → World → Prop
  | [], a, w => Q .normal a w
  | o :: rest, a, w => if Region.wanted o (yielded all a.tmps) = true then o.wp P a w (fun a' w' => C w' ∧ wpL P all Q C rest a' w') Q else wpL P all Q C rest (a.put o.dst undef) w

theorem wpOps_of_wpL {P : Program} {all : Array Oper} {Q : Exit → Act → World → Prop} {C : World → Prop} : ∀ (l : List Oper) (k : Nat) (a : Act) (w : World), (∀ j, j < l.length → all[k + j]? = l[j]?) → wpL P all Q C l a w → wpOps P all Q (List.range' k l.length) a w
  | [], k, a, w, _, h => by simpa [wpOps, wpL] using h
  | o :: rest, k, a, w, hl, h => by
    have h0 : all[k]? = some o := by have := hl 0 (by simp); simpa using this
    have hr : ∀ j, j < rest.length → all[k + 1 + j]? = rest[j]? := fun j hj => by
      have := hl (j + 1) (by simp; omega)
      rw [show k + (j + 1) = k + 1 + j from by omega] at this
      simpa using this
    simp only [List.length_cons, List.range'_succ, wpOps, h0]
    simp only [wpL] at h
    split
    · rename_i e; rw [if_pos e] at h
      exact .inl (Oper.wp_mono (fun a w h => wpOps_of_wpL rest (k + 1) a w hr h.2) h)
    · rename_i e; rw [if_neg e] at h
      exact wpOps_of_wpL rest (k + 1) _ w hr h

theorem wp_region_L {P : Program} {id : Nat} {l : List Oper} {Q : Exit → Act → World → Prop} {C : World → Prop} {a : Act} {w : World} (h : wpL P l.toArray Q C l a w) : (Code.region id l.toArray false).wp P Q a w := by
  refine wp_region ?_
  have := wpOps_of_wpL (P := P) (all := l.toArray) (Q := Q) (C := C) l 0 a w (by intro j hj; simp) h
  simpa [List.range_eq_range'] using this

/-- What was settled lies as it did. -/
def SnapOK (S : Snap) (w : World) : Prop := ∀ b cs, S b = some cs → ∃ T m, w.heap[b]? = some (.cells cs T m)
theorem SnapOK.mono {S S' : Snap} {w : World} (hS : SExt S S') (h : SnapOK S' w) : SnapOK S w := fun b cs hb => h b cs (hS b cs hb)

def ROps (P : Program) (N : Nat) (all : Array Oper) (ops : List Oper) (τ : List (Nat × AV)) (Γ : List Ob) (Q : PQ) : Prop :=
  ∀ S0 μ0 w0 Sr S μ a w, SExt Sr S → Inv S0 μ0 w0 N S μ τ Γ a w → wpL P all (Post S0 μ0 w0 N Q) (SnapOK Sr) ops a w

theorem RunC.region {P : Program} {N id : Nat} {l : List Oper} {τ : List (Nat × AV)} {Γ : List Ob} {Q : PQ} (h : ROps P N l.toArray l τ Γ Q) : RunC P N (.region id l.toArray false) τ Γ Q :=
  fun S0 μ0 w0 S μ a w hi => wp_region_L (h S0 μ0 w0 S S μ a w (SExt.refl S) hi)
theorem ROps.nil {P : Program} {N : Nat} {all : Array Oper} {τ : List (Nat × AV)} {Γ : List Ob} {Q : PQ} (h : Q .normal τ Γ) : ROps P N all [] τ Γ Q :=
  fun _ _ _ _ S μ _ _ _ hi => ⟨S, μ, τ, Γ, h, hi⟩
theorem ROps.op {P : Program} {N : Nat} {all : Array Oper} {o : Oper} {rest : List Oper} {τ : List (Nat × AV)} {Γ : List Ob} {Q : PQ} (hw : wantT all τ o = some true)
    (h : ROp P N o τ Γ (fun τ' Γ' => ROps P N all rest τ' Γ' Q)) : ROps P N all (o :: rest) τ Γ Q := by
  intro S0 μ0 w0 Sr S μ a w hr hi
  simp only [wpL]
  rw [if_pos (wantT_spec hw fun j want d _ _ => hi.ci d)]
  refine h S0 μ0 w0 S μ a w hi _ _ ?_
  intro S' μ' v w' τ' Γ' hS hK hi'
  exact ⟨SnapOK.mono (hr.trans hS) hi'.wi.snap, hK S0 μ0 w0 Sr S' μ' _ w' (hr.trans hS) hi'⟩
theorem ROps.skip {P : Program} {N : Nat} {all : Array Oper} {o : Oper} {rest : List Oper} {τ : List (Nat × AV)} {Γ : List Ob} {Q : PQ} (hw : wantT all τ o = some false) (hd : dstLt N o = true)
    (h : ROps P N all rest (put τ o.dst (.x undef)) Γ Q) : ROps P N all (o :: rest) τ Γ Q := by
  intro S0 μ0 w0 Sr S μ a w hr hi
  simp only [wpL]
  rw [if_neg (by rw [wantT_spec hw fun j want d _ _ => hi.ci d]; simp)]
  refine h S0 μ0 w0 Sr S μ _ w hr ⟨hi.fr, hi.wi, hi.ci.put (fun d hd' => by rw [hi.tsz]; exact dstLt_spec hd d hd') ?_, by rw [put_size]; exact hi.tsz, by rw [put_defers]; exact hi.dfr⟩
  simp only [V]
theorem ROps.t {P : Program} {N : Nat} {all : Array Oper} {o : Oper} {rest : List Oper} {τ : List (Nat × AV)} {Γ : List Ob} {Q : PQ} {r : AV} (hw : wantT all τ o = some true) (hd : dstLt N o = true) {fs : List (Nat × List AV)} (ht : TOp P o τ Γ r fs)
    (h : ROps P N all rest (put τ o.dst r) (fillOb Γ fs) Q) : ROps P N all (o :: rest) τ Γ Q := ROps.op hw (ht.rop hd h)

/-- A loose operation: its value hangs on its operands and on what is settled alone; it may be done at any time. -/
def LOp (P : Program) (o : Oper) (τ : List (Nat × AV)) (r : AV) : Prop :=
  ∀ (S : Snap) (μ : List Mu) (a : Act), (∀ x ∈ o.op.operands, V S μ (ev τ x) (a.eval x)) → ∃ v : Value, (∀ w : World, SnapOK S w → (execOp a.eval o).run P w = .ok (.value v) w) ∧ V S μ r v
theorem LOp.top {P : Program} {o : Oper} {τ : List (Nat × AV)} {Γ : List Ob} {r : AV} (h : LOp P o τ r) : TOp P o τ Γ r [] := by
  intro S μ Γ2 a w _ _ hw hx next Q hn
  obtain ⟨v, hrun, hv⟩ := h S μ a hx
  unfold Oper.wp
  rw [hrun w hw.snap]
  exact hn S μ v w (SExt.refl S) (SFresh.refl _ S) (MuStep.refl _ _ _) hw hv (Grow.refl w)

/-- The chain of a region's tame operations, in the text's order; which of them are loose. -/
inductive TRun (P : Program) (all : Array Oper) (Γ : List Ob) : List Oper → List (Nat × AV) → List (Nat × AV) → List (List (Nat × List AV)) → List Bool → Prop
  | nil (τ : List (Nat × AV)) : TRun P all Γ [] τ τ [] []
  | op {o : Oper} {rest : List Oper} {τ τ' : List (Nat × AV)} {r : AV} {fs : List (Nat × List AV)} {fss : List (List (Nat × List AV))} {bs : List Bool} (hw : wantT all τ o = some true) (ht : TOp P o τ Γ r fs) (h : TRun P all Γ rest (put τ o.dst r) τ' fss bs) : TRun P all Γ (o :: rest) τ τ' (fs :: fss) (false :: bs)
  | loose {o : Oper} {rest : List Oper} {τ τ' : List (Nat × AV)} {r : AV} {fss : List (List (Nat × List AV))} {bs : List Bool} (hw : wantT all τ o = some true) (ht : LOp P o τ r) (h : TRun P all Γ rest (put τ o.dst r) τ' fss bs) : TRun P all Γ (o :: rest) τ τ' ([] :: fss) (true :: bs)
  | skip {o : Oper} {rest : List Oper} {τ τ' : List (Nat × AV)} {fss : List (List (Nat × List AV))} {bs : List Bool} (hw : wantT all τ o = some false) (h : TRun P all Γ rest (put τ o.dst (.x undef)) τ' fss bs) : TRun P all Γ (o :: rest) τ τ' ([] :: fss) (false :: bs)

def TAt (P : Program) (all : Array Oper) (Γ : List Ob) (o : Oper) (τ : List (Nat × AV)) (r : AV) (fs : List (Nat × List AV)) (b : Bool) : Prop :=
  (wantT all τ o = some true ∧ TOp P o τ Γ r fs ∧ b = false) ∨ (wantT all τ o = some true ∧ LOp P o τ r ∧ fs = [] ∧ b = true) ∨ (wantT all τ o = some false ∧ r = .x undef ∧ fs = [] ∧ b = false)
def putAll : List (Nat × AV) → List Oper → List AV → List (Nat × AV)
  | τ, o :: os, v :: vs => putAll (put τ o.dst v) os vs
  | τ, _, _ => τ

theorem TRun.chain {P : Program} {all : Array Oper} {Γ : List Ob} {hd : List Oper} {τ τ' : List (Nat × AV)} {fss : List (List (Nat × List AV))} {bs : List Bool} (h : TRun P all Γ hd τ τ' fss bs) :
    fss.length = hd.length ∧ bs.length = hd.length ∧ ∃ vs : List AV, vs.length = hd.length ∧ τ' = putAll τ hd vs ∧
      ∀ (i : Nat) (o : Oper) (v : AV) (fs : List (Nat × List AV)) (b : Bool), hd[i]? = some o → vs[i]? = some v → fss[i]? = some fs → bs[i]? = some b → TAt P all Γ o (putAll τ (hd.take i) (vs.take i)) v fs b := by
  induction h with
  | nil τ => exact ⟨rfl, rfl, [], rfl, rfl, by simp⟩
  | @op o rest τ τ' r fs fss bs hw ht h ih =>
    obtain ⟨h0, h0', vs, h1, h2, h3⟩ := ih
    refine ⟨by simp [h0], by simp [h0'], r :: vs, by simp [h1], by simpa [putAll] using h2, ?_⟩
    intro i o' v f b ho hv hf hb
    cases i with
    | zero =>
      simp at ho hv hf hb
      subst ho; subst hv; subst hf; subst hb
      exact Or.inl ⟨by simpa [putAll] using hw, by simpa [putAll] using ht, rfl⟩
    | succ i =>
      simp at ho hv hf hb
      simpa [putAll] using h3 i o' v f b ho hv hf hb
  | @loose o rest τ τ' r fss bs hw ht h ih =>
    obtain ⟨h0, h0', vs, h1, h2, h3⟩ := ih
    refine ⟨by simp [h0], by simp [h0'], r :: vs, by simp [h1], by simpa [putAll] using h2, ?_⟩
    intro i o' v f b ho hv hf hb
    cases i with
    | zero =>
      simp at ho hv hf hb
      subst ho; subst hv; subst hf; subst hb
      exact Or.inr (Or.inl ⟨by simpa [putAll] using hw, by simpa [putAll] using ht, rfl, rfl⟩)
    | succ i =>
      simp at ho hv hf hb
      simpa [putAll] using h3 i o' v f b ho hv hf hb
  | @skip o rest τ τ' fss bs hw h ih =>
    obtain ⟨h0, h0', vs, h1, h2, h3⟩ := ih
    refine ⟨by simp [h0], by simp [h0'], .x undef :: vs, by simp [h1], by simpa [putAll] using h2, ?_⟩
    intro i o' v f b ho hv hf hb
    cases i with
    | zero =>
      simp at ho hv hf hb
      subst ho; subst hv; subst hf; subst hb
      exact Or.inr (Or.inr ⟨by simpa [putAll] using hw, rfl, rfl, rfl⟩)
    | succ i =>
      simp at ho hv hf hb
      simpa [putAll] using h3 i o' v f b ho hv hf hb

/-- What has been filled in whatever order is what is filled in the text's. -/
theorem fillOb1_length (Γ : List Ob) (f : Nat × List AV) : (fillOb1 Γ f).length = Γ.length := by unfold fillOb1; split <;> simp
theorem fillOb_length : ∀ (fs : List (Nat × List AV)) (Γ : List Ob), (fillOb Γ fs).length = Γ.length
  | [], _ => rfl
  | f :: fs, Γ => by
    show (fillOb (fillOb1 Γ f) fs).length = _
    rw [fillOb_length fs, fillOb1_length]
theorem fillOb1_ne {Γ : List Ob} {f : Nat × List AV} {i : Nat} (h : f.1 ≠ i) : (fillOb1 Γ f)[i]? = Γ[i]? := by
  unfold fillOb1
  split
  · rw [List.getElem?_set_ne h]
  · rfl
theorem fillOb_ne {i : Nat} : ∀ {fs : List (Nat × List AV)} {Γ : List Ob}, (∀ f ∈ fs, f.1 ≠ i) → (fillOb Γ fs)[i]? = Γ[i]?
  | [], _, _ => rfl
  | f :: fs, Γ, h => by
    show (fillOb (fillOb1 Γ f) fs)[i]? = _
    rw [fillOb_ne fun g hg => h g (by simp [hg]), fillOb1_ne (h f (by simp))]
theorem fillOb_at : ∀ {fs : List (Nat × List AV)} {Γ : List Ob} {f : Nat × List AV}, (fs.map (·.1)).Nodup → f ∈ fs → (fillOb Γ fs)[f.1]? = Γ[f.1]?.map fun g => ⟨g.ver + 1, some f.2⟩
  | [], _, _, _, h => by cases h
  | g :: fs, Γ, f, hn, h => by
    simp only [List.map_cons, List.nodup_cons] at hn
    show (fillOb (fillOb1 Γ g) fs)[f.1]? = _
    rcases List.mem_cons.1 h with e | h
    · subst e
      rw [fillOb_ne fun k hk e => hn.1 (by rw [← e]; exact List.mem_map_of_mem hk)]
      unfold fillOb1
      split
      · rename_i x hx
        rw [hx]
        have := lt_of_getElem? hx
        simp [this]
      · rename_i hx; rw [hx]; rfl
    · rw [fillOb_at hn.2 h, fillOb1_ne fun e => hn.1 (by rw [e]; exact List.mem_map_of_mem h)]

/-- No two of the operations write one slot. -/
def dstsApart : List Oper → Bool
  | [] => true
  | o :: rest => (rest.all fun p => match o.dst, p.dst with | some d, some e => d != e | _, _ => true) && dstsApart rest
theorem dstsApart_spec {d : Nat} : ∀ {l : List Oper}, dstsApart l = true → ∀ {i j : Nat} {o p : Oper}, l[i]? = some o → l[j]? = some p → o.dst = some d → p.dst = some d → i = j
  | [], _, i, _, _, _, hi, _, _, _ => by simp at hi
  | q :: rest, h, i, j, o, p, hi, hj, ho, hp => by
    simp only [dstsApart, Bool.and_eq_true, List.all_eq_true] at h
    cases i with
    | zero =>
      cases j with
      | zero => rfl
      | succ j =>
        simp at hi hj
        subst hi
        have := h.1 p (List.mem_of_getElem? hj)
        simp [ho, hp] at this
    | succ i =>
      cases j with
      | zero =>
        simp at hi hj
        subst hj
        have := h.1 o (List.mem_of_getElem? hi)
        simp [ho, hp] at this
      | succ j =>
        simp at hi hj
        rw [dstsApart_spec h.2 hi hj ho hp]

theorem look_putAll_none {t : Nat} : ∀ (l : List Oper) (vs : List AV) (τ : List (Nat × AV)), (∀ (j : Nat) (o : Oper), l[j]? = some o → o.dst ≠ some t) → look (putAll τ l vs) t = look τ t
  | [], _, _, _ => rfl
  | _ :: _, [], _, _ => rfl
  | o :: rest, v :: vs, τ, h => by
    simp only [putAll]
    rw [look_putAll_none rest vs _ fun j p hp => h (j + 1) p (by simpa using hp)]
    have h0 := h 0 o rfl
    cases hd : o.dst with
    | none => rfl
    | some d =>
      rw [hd] at h0
      simp only [put, look]
      rw [if_neg fun e => h0 (by rw [e])]
theorem look_putAll_some {t : Nat} : ∀ (l : List Oper) (vs : List AV) (τ : List (Nat × AV)) (j : Nat) (o : Oper) (v : AV), dstsApart l = true → l[j]? = some o → vs[j]? = some v → o.dst = some t → look (putAll τ l vs) t = v
  | [], _, _, j, _, _, _, h, _, _ => by simp at h
  | _ :: _, [], _, j, _, _, _, _, h, _ => by simp at h
  | q :: rest, u :: vs, τ, 0, o, v, hap, ho, hv, hd => by
    simp at ho hv
    subst ho; subst hv
    simp only [putAll]
    rw [look_putAll_none rest vs _ fun j p hp he => by
      have := dstsApart_spec hap (i := 0) (j := j + 1) rfl (by simpa using hp) hd he
      omega]
    simp [put, hd, look]
  | q :: rest, u :: vs, τ, j + 1, o, v, hap, ho, hv, hd => by
    simp at ho hv
    simp only [dstsApart, Bool.and_eq_true] at hap
    simp only [putAll]
    exact look_putAll_some rest vs _ j o v hap.2 ho hv hd

/-- The check on a region whose order is drawn: its first operations are tame, those marked in bs loose. -/
def drawOk (all : Array Oper) (bs : List Bool) : Bool :=
  let n := bs.length
  dstsApart (all.toList.take n) &&
  ((List.range all.size).all fun i => match all[i]? with
    | none => false
    | some oi => oi.after.toList.all fun e => !Region.binds .any e || decide (e.on < i)) &&
  ((List.range n).all fun i => match all[i]? with
    | none => false
    | some oi => (List.range n).all fun j => match (all[j]?).bind (·.dst) with
        | none => true
        | some d => i == j || !(oi.looksAt all).contains d || (if j < i then Region.waitsFor .any all i j else Region.waitsFor .any all j i)) &&
  (decide (n = all.size) || (decide (n < all.size) && Region.chainB .any all n &&
    (List.range n).all fun i => bs.getD i false || (List.range (n + 1)).any fun j => decide (i < j) && (decide (j = n) || !bs.getD j false) && Region.waitsFor .any all j i)) &&
  ((List.range n).all fun i => !bs.getD i false || match all[i]? with
    | none => false
    | some oi => (List.range all.size).all fun j => match all[j]? with
        | none => true
        | some oj => i == j || Region.waitsFor .any all j i || Region.waitsFor .any all i j || oi.apart all oj) &&
  Region.noSelect all

theorem drawOk_edges {all : Array Oper} {bs : List Bool} (h : drawOk all bs = true) {i : Nat} {o : Oper} (hi : all[i]? = some o) : ∀ e ∈ o.after, Region.binds .any e = true → e.on < i := by
  simp only [drawOk, Bool.and_eq_true] at h
  have h1 := List.all_eq_true.1 h.1.1.1.1.2 i (List.mem_range.2 (Array.getElem?_eq_some_iff.1 hi).1)
  rw [hi] at h1
  dsimp only at h1
  intro e he hb
  have h2 := List.all_eq_true.1 h1 e (Array.mem_toList_iff.2 he)
  simpa [hb] using h2
theorem drawOk_apart {all : Array Oper} {bs : List Bool} (h : drawOk all bs = true) : dstsApart (all.toList.take bs.length) = true := by
  simp only [drawOk, Bool.and_eq_true] at h
  exact h.1.1.1.1.1
theorem drawOk_noSelect {all : Array Oper} {bs : List Bool} (h : drawOk all bs = true) : Region.noSelect all = true := by
  simp only [drawOk, Bool.and_eq_true] at h
  exact h.2
theorem drawOk_loose {all : Array Oper} {bs : List Bool} (h : drawOk all bs = true) {i j : Nat} {oi oj : Oper} (hb : bs.getD i false = true) (hi : all[i]? = some oi) (hj : all[j]? = some oj) (hne : j ≠ i) :
    Region.waitsFor .any all j i = true ∨ Region.waitsFor .any all i j = true ∨ oi.apart all oj = true := by
  simp only [drawOk, Bool.and_eq_true] at h
  have hin : i < bs.length := by
    rcases Nat.lt_or_ge i bs.length with h' | h'
    · exact h'
    · simp [List.getD, List.getElem?_eq_none h'] at hb
  have h1 := List.all_eq_true.1 h.1.2 i (List.mem_range.2 hin)
  rw [hb, hi] at h1
  simp only [Bool.not_true, Bool.false_or] at h1
  have h2 := List.all_eq_true.1 h1 j (List.mem_range.2 (Array.getElem?_eq_some_iff.1 hj).1)
  rw [hj] at h2
  simp only [Bool.or_eq_true, beq_iff_eq] at h2
  rcases h2 with ((h2 | h2) | h2) | h2
  · exact absurd h2.symm hne
  · exact .inl h2
  · exact .inr (.inl h2)
  · exact .inr (.inr h2)
theorem drawOk_dep {all : Array Oper} {bs : List Bool} (h : drawOk all bs = true) {i j : Nat} {oi oj : Oper} {d : Nat} (hin : i < bs.length) (hjn : j < bs.length) (hi : all[i]? = some oi) (hj : all[j]? = some oj) (hd : oj.dst = some d) (hl : d ∈ oi.looksAt all) (hne : i ≠ j) :
    if j < i then Region.waitsFor .any all i j = true else Region.waitsFor .any all j i = true := by
  simp only [drawOk, Bool.and_eq_true] at h
  have h1 := List.all_eq_true.1 h.1.1.1.2 i (List.mem_range.2 hin)
  rw [hi] at h1
  dsimp only at h1
  have h2 := List.all_eq_true.1 h1 j (List.mem_range.2 hjn)
  simp only [hj, Option.bind_some, hd] at h2
  simp only [Bool.or_eq_true, beq_iff_eq, hne, false_or] at h2
  rcases h2 with h2 | h2
  · simp at h2; exact absurd hl h2
  · split
    · rename_i e; rw [if_pos e] at h2; exact h2
    · rename_i e; rw [if_neg e] at h2; exact h2
theorem drawOk_tail {all : Array Oper} {bs : List Bool} (h : drawOk all bs = true) : bs.length = all.size ∨ (bs.length < all.size ∧ Region.chainB .any all bs.length = true ∧
    ∀ i, i < bs.length → bs.getD i false = false → ∃ j, i < j ∧ j ≤ bs.length ∧ (j = bs.length ∨ bs.getD j false = false) ∧ Region.waitsFor .any all j i = true) := by
  simp only [drawOk, Bool.and_eq_true, Bool.or_eq_true, decide_eq_true_eq] at h
  rcases h.1.1.2 with h | h
  · exact .inl h
  · refine .inr ⟨h.1.1, h.1.2, fun i hi hb => ?_⟩
    have h1 := List.all_eq_true.1 h.2 i (List.mem_range.2 hi)
    rw [hb, Bool.false_or] at h1
    obtain ⟨j, hj, hj2⟩ := List.any_eq_true.1 h1
    simp only [Bool.and_eq_true, decide_eq_true_eq, Bool.or_eq_true, Bool.not_eq_true'] at hj2
    have := List.mem_range.1 hj
    exact ⟨j, hj2.1.1, by omega, hj2.1.2, hj2.2⟩

theorem tail_waits2 {all : Array Oper} {bs : List Bool} {listed : Array Bool} (hc : Region.chainB .any all bs.length = true) (hs : ∀ i, i < bs.length → bs.getD i false = false → ∃ j, i < j ∧ j ≤ bs.length ∧ (j = bs.length ∨ bs.getD j false = false) ∧ Region.waitsFor .any all j i = true)
    (hn : bs.length < all.size) (inv : HeadInv .any all bs.length listed) :
    ∀ (d i : Nat), bs.length - i = d → i < bs.length → bs.getD i false = false → listed.getD i true = false → ∀ t, bs.length ≤ t → t ∉ Region.ready .any all listed := by
  intro d
  induction d using Nat.strongRecOn with
  | _ d ih =>
    intro i hd hi hb hun t ht hr
    obtain ⟨_, ot, hot, hall⟩ := mem_ready.1 hr
    have htlt : t < all.size := (Array.getElem?_eq_some_iff.1 hot).1
    by_cases htn : t = bs.length
    · obtain ⟨j, hij, hjn, hjb, hj2⟩ := hs i hi hb
      obtain ⟨oj, hoj, e, he, hbd, hon⟩ := Region.waitsFor_spec hj2
      by_cases hjt : j = t
      · subst hjt
        have : oj = ot := Option.some.inj (hoj.symm.trans hot)
        subst this
        have h2 := hall e he hbd
        rw [hon, getD_both hun] at h2
        cases h2
      · have hjlt : j < bs.length := by omega
        have hjb' : bs.getD j false = false := by
          rcases hjb with h | h
          · omega
          · exact h
        cases hl : listed.getD j false with
        | true =>
          have h2 := inv.closed j oj hoj hl e he hbd
          rw [hon, getD_both hun] at h2
          cases h2
        | false =>
          have hjs : j < listed.size := by rw [inv.size]; omega
          exact ih (bs.length - j) (by omega) j rfl hjlt hjb' (getD_in hjs hl) t ht hr
    · have h1 := List.all_eq_true.1 hc t (List.mem_range.2 htlt)
      simp only [Bool.or_eq_true, decide_eq_true_eq] at h1
      rcases h1 with h1 | h1
      · omega
      · obtain ⟨o', ho', e, he, hbd, hon⟩ := Region.waitsFor_spec h1
        have : o' = ot := Option.some.inj (ho'.symm.trans hot)
        subst this
        have h2 := hall e he hbd
        rw [hon, getD_both (inv.tail (t - 1) (by omega) (by omega))] at h2
        cases h2

theorem wpAnyH_mono {P : Program} {md : Region.Mode} {ops : Array Oper} {Q : Exit → Act → World → Prop} {C C' : World → Prop} (hC : ∀ w, C w → C' w) : ∀ (fuel : Nat) (listed : Array Bool) (a : Act) (w : World), wpAnyH P md ops Q C fuel listed a w → wpAnyH P md ops Q C' fuel listed a w
  | 0, _, _, _, h => h
  | fuel + 1, _, _, _, h => ⟨h.1, fun i hi => wpOp_mono (fun a' w' h' => ⟨hC w' h'.1, wpAnyH_mono hC fuel _ a' w' h'.2⟩) (h.2 i hi)⟩

/-- Behind the tame ones: the rest comes in the text's order. -/
theorem wpAny_rest {P : Program} {all : Array Oper} {bs : List Bool} {Q : Exit → Act → World → Prop} {C : World → Prop} (hok : drawOk all bs = true) : ∀ (l : List Oper) (k : Nat) (listed : Array Bool) (a : Act) (w : World),
    bs.length ≤ k → k + l.length = all.size → (∀ j, j < l.length → all[k + j]? = l[j]?) → listed.size = all.size → (∀ j, j < all.size → listed.getD j false = decide (j < k)) → C w → wpL P all Q C l a w → wpAnyH P .any all Q C l.length listed a w
  | [], k, listed, a, w, _, hk, _, hs, hl, _, h => by
    refine ⟨?_, h⟩
    refine List.eq_nil_iff_forall_not_mem.2 fun i hi => ?_
    obtain ⟨h0, o, ho, _⟩ := mem_ready.1 hi
    have hi' := (Array.getElem?_eq_some_iff.1 ho).1
    have := hl i hi'
    rw [getD_both h0] at this
    simp at this
    simp at hk
    omega
  | o :: rest, k, listed, a, w, hn, hk, ha, hs, hl, hCw, h => by
    have hk' : k < all.size := by simp at hk; omega
    have ho : all[k]? = some o := by have := ha 0 (by simp); simpa using this
    have hready : ∀ i, i ∈ Region.ready .any all listed → i = k := by
      intro i hi
      obtain ⟨h0, oi, hoi, hall⟩ := mem_ready.1 hi
      have hi' := (Array.getElem?_eq_some_iff.1 hoi).1
      have h1 := hl i hi'
      rw [getD_both h0] at h1
      simp at h1
      rcases Nat.lt_or_ge k i with hlt | hge
      · exfalso
        rcases drawOk_tail hok with e | ⟨_, hc, _⟩
        · omega
        · have h2 := List.all_eq_true.1 hc i (List.mem_range.2 hi')
          simp only [Bool.or_eq_true, decide_eq_true_eq] at h2
          rcases h2 with h2 | h2
          · omega
          · obtain ⟨o', ho', e, he, hb, hon⟩ := Region.waitsFor_spec h2
            rw [hoi] at ho'
            simp at ho'
            subst ho'
            have h3 := hall e he hb
            rw [hon, hl (i - 1) (by omega)] at h3
            simp at h3
            omega
      · omega
    have hmem : k ∈ Region.ready .any all listed := by
      refine mem_ready.2 ⟨getD_in (by omega) (by rw [hl k hk']; simp), o, ho, fun e he hb => ?_⟩
      have := drawOk_edges hok ho e he hb
      rw [hl e.on (by omega)]
      simpa using this
    refine ⟨fun hnil => ?_, fun i hi => ?_⟩
    · rw [hnil] at hmem; cases hmem
    · have := hready i hi
      subst this
      have hnext : ∀ a w, C w → wpL P all Q C rest a w → wpAnyH P .any all Q C rest.length (listed.setIfInBounds i true) a w := by
        intro a w hCw h
        refine wpAny_rest hok rest (i + 1) _ a w (by omega) (by simp at hk; omega) (fun j hj => ?_) (by simpa using hs) (fun j hj => ?_) hCw h
        · have := ha (j + 1) (by simp; omega)
          rw [show i + (j + 1) = i + 1 + j from by omega] at this
          simpa using this
        · by_cases e : i = j
          · subst e; simp [hs, hj]
          · rw [getD_set_ne false e, hl j hj]
            by_cases e2 : j < i
            · rw [decide_eq_true e2, decide_eq_true (by omega)]
            · rw [decide_eq_false e2, decide_eq_false (by omega)]
      simp only [wpL] at h
      unfold wpOp
      rw [ho]
      dsimp only
      split
      · rename_i e; rw [if_pos e] at h; exact .inl (Oper.wp_mono (fun a w h => ⟨h.1, hnext a w h.1 h.2⟩) h)
      · rename_i e; rw [if_neg e] at h; exact ⟨hCw, hnext _ _ hCw h⟩

/-- What holds while the tame operations are done in whatever order. -/
structure JInv (S0 : Snap) (μ0 : List Mu) (w0 : World) (N : Nat) (τ : List (Nat × AV)) (Γ : List Ob) (hd : List Oper) (vs : List AV) (fss : List (List (Nat × List AV))) (S : Snap) (listed : Array Bool) (a : Act) (w : World) : Prop where
  ex : ∃ μ Γc, FrI S0 μ0 w0 S μ w ∧ WI S μ Γc w ∧ Γc.length = Γ.length ∧
    (∀ (j : Nat) (fs : List (Nat × List AV)) (f : Nat × List AV), fss[j]? = some fs → f ∈ fs → listed.getD j false = true → Γc[f.1]? = Γ[f.1]?.map fun g => ⟨g.ver + 1, some f.2⟩) ∧
    (∀ i, (∀ (j : Nat) (fs : List (Nat × List AV)) (f : Nat × List AV), fss[j]? = some fs → f ∈ fs → listed.getD j false = true → f.1 ≠ i) → Γc[i]? = Γ[i]?) ∧
    (∀ (j : Nat) (o : Oper) (v : AV) (d : Nat), hd[j]? = some o → vs[j]? = some v → listed.getD j false = true → o.dst = some d → V S μ v (a.tmps.getD d undef)) ∧
    (∀ t, (∀ (j : Nat) (o : Oper), hd[j]? = some o → listed.getD j false = true → o.dst ≠ some t) → V S μ (look τ t) (a.tmps.getD t undef))
  tsz : a.tmps.size = N
  dfr : a.defers = []

/-- The names that are filled: each once, each dead. -/
def fillsOk (Γ : List Ob) (fs : List (Nat × List AV)) : Prop := (fs.map (·.1)).Nodup ∧ ∀ f ∈ fs, ∃ ver, Γ[f.1]? = some ⟨ver, none⟩

theorem flat_idx {α : Type} {ll : List (List α)} {j k : Nat} {l l' : List α} {a a' : α} {g : α → Nat} (hn : (ll.flatten.map g).Nodup) (hj : ll[j]? = some l) (hk : ll[k]? = some l') (ha : a ∈ l) (ha' : a' ∈ l') (he : g a = g a') : j = k := by
  induction ll generalizing j k with
  | nil => simp at hj
  | cons x ll ih =>
    simp only [List.flatten_cons, List.map_append] at hn
    have hn3 := (List.nodup_append.1 hn).2.2
    cases j with
    | zero =>
      cases k with
      | zero => rfl
      | succ k =>
        simp at hj hk
        subst hj
        exfalso
        exact hn3 (g a) (List.mem_map_of_mem ha) (g a') (List.mem_map_of_mem (List.mem_flatten.2 ⟨l', List.mem_of_getElem? hk, ha'⟩)) he
    | succ j =>
      cases k with
      | zero =>
        simp at hj hk
        subst hk
        exfalso
        exact hn3 (g a') (List.mem_map_of_mem ha') (g a) (List.mem_map_of_mem (List.mem_flatten.2 ⟨l, List.mem_of_getElem? hj, ha⟩)) he.symm
      | succ k =>
        simp at hj hk
        rw [ih (List.nodup_append.1 hn).2.1 hj hk]

theorem count_set {l : List Bool} {i : Nat} (h : l[i]? = some false) : (l.set i true).count false + 1 = l.count false := by
  induction l generalizing i with
  | nil => simp at h
  | cons b l ih =>
    cases i with
    | zero => simp at h; subst h; simp
    | succ i =>
      simp at h
      have := ih h
      simp only [List.set_cons_succ, List.count_cons]
      omega

theorem tmp_mem_looksAt {all : Array Oper} {o : Oper} {t : Nat} (h : Operand.tmp t ∈ o.op.operands) : t ∈ o.looksAt all := by
  unfold Oper.looksAt
  exact List.mem_append.2 (.inl (List.mem_filterMap.2 ⟨_, Array.mem_toList_iff.2 h, rfl⟩))
theorem guard_mem_looksAt {all : Array Oper} {o : Oper} {j d : Nat} {want : Bool} (hg : o.guard = some (j, want)) (hd : (all[j]?).bind (·.dst) = some d) : d ∈ o.looksAt all := by
  unfold Oper.looksAt
  refine List.mem_append.2 (.inr ?_)
  rw [hg]
  simp [hd]

theorem dstsApart_take : ∀ (l : List Oper) (k : Nat), dstsApart l = true → dstsApart (l.take k) = true
  | [], k, _ => by simp [dstsApart]
  | q :: l, 0, _ => by simp [dstsApart]
  | q :: l, k + 1, h => by
    simp only [dstsApart, Bool.and_eq_true, List.all_eq_true, List.take_succ_cons] at h ⊢
    exact ⟨fun p hp => h.1 p (List.mem_of_mem_take hp), dstsApart_take l k h.2⟩

/-- One tame operation that may come up now: the claims on what it looks at are those of the text's order, and what it does keeps the invariant. -/
theorem JInv.step {all : List Oper} {bs : List Bool} {N : Nat} {S0 : Snap} {μ0 : List Mu} {w0 : World} {τ : List (Nat × AV)} {Γ : List Ob} {vs : List AV} {fss : List (List (Nat × List AV))} {S : Snap} {listed : Array Bool} {a : Act} {w : World}
    (hfl : fillsOk Γ fss.flatten) (hok : drawOk all.toArray bs = true) (hdst : (all.take bs.length).all (dstLt N) = true)
    (hinv : HeadInv .any all.toArray bs.length listed) (hJ : JInv S0 μ0 w0 N τ Γ (all.take bs.length) vs fss S listed a w)
    {i : Nat} {o : Oper} {v : AV} {fs : List (Nat × List AV)} (hi : i ∈ Region.ready .any all.toArray listed) (hin : i < bs.length) (hoL : (all.take bs.length)[i]? = some o) (hv : vs[i]? = some v) (hfsi : fss[i]? = some fs) (hvs : vs.length = (all.take bs.length).length) :
    ∃ μ Γc, FrI S0 μ0 w0 S μ w ∧ WI S μ Γc w ∧ LiveLe Γ Γc ∧ (∀ f ∈ fs, Γc[f.1]? = Γ[f.1]?) ∧
      (∀ t, t ∈ o.looksAt all.toArray → V S μ (look (putAll τ ((all.take bs.length).take i) (vs.take i)) t) (a.tmps.getD t undef)) ∧
      ∀ (S' : Snap) (μ' : List Mu) (u : Value) (w' : World), SExt S S' → MuLe w.heap.size μ μ' → WI S' μ' (fillOb Γc fs) w' → V S' μ' v u → FrI S0 μ0 w0 S' μ' w' →
        JInv S0 μ0 w0 N τ Γ (all.take bs.length) vs fss S' (listed.setIfInBounds i true) (a.put o.dst u) w' := by
  have hnle : bs.length ≤ all.length := by
    rcases drawOk_tail hok with e | ⟨e, _⟩
    · simp at e; omega
    · simp at e; omega
  have hdl : (all.take bs.length).length = bs.length := by simp; omega
  have hap' : dstsApart (all.take bs.length) = true := by simpa using drawOk_apart hok
  have hget : ∀ {i : Nat}, i < bs.length → (all.take bs.length)[i]? = all[i]? := fun {i} hi => by rw [List.getElem?_take, if_pos hi]
  obtain ⟨hun, o', ho, hall⟩ := mem_ready.1 hi
  have hoo : o' = o := by
    rw [hget hin] at hoL
    have : all[i]? = some o' := by simpa using ho
    rw [hoL] at this; simp at this; exact this.symm
  subst hoo
  have hio : i < all.length := by omega
  obtain ⟨μ, Γc, hfr, hwi, hlen, hf1, hf2, h1, h2⟩ := hJ.ex
  have hiu : listed.getD i false = false := getD_both hun
  have hdlt : ∀ d, o'.dst = some d → d < N := fun d hd => dstLt_spec (List.all_eq_true.1 hdst o' (List.mem_of_getElem? hoL)) d hd
  refine ⟨μ, Γc, hfr, hwi, ?_, ?_, ?_, ?_⟩
  · refine ⟨hlen, fun k ver l hk => ?_⟩
    rw [hf2 k fun j fs' f' hj hf' _ e => ?_]
    · exact hk
    · obtain ⟨ver', hv'⟩ := hfl.2 f' (List.mem_flatten.2 ⟨fs', List.mem_of_getElem? hj, hf'⟩)
      rw [e, hk] at hv'
      simp at hv'
  · intro f hf
    refine hf2 f.1 fun j fs' f' hj hf' hl e => ?_
    have := flat_idx (g := (·.1)) hfl.1 hj hfsi hf' hf e
    subst this
    rw [hiu] at hl; cases hl
  · intro t ht
    by_cases hw : ∃ (j : Nat) (p : Oper), (all.take bs.length)[j]? = some p ∧ p.dst = some t
    · obtain ⟨j, p, hp, hd⟩ := hw
      have hj : j < bs.length := by have := lt_of_getElem? hp; omega
      have hpa : all.toArray[j]? = some p := by rw [hget hj] at hp; simpa using hp
      obtain ⟨u, hu⟩ : ∃ u, vs[j]? = some u := getElem?_of_lt (by omega)
      rcases Nat.lt_or_ge j i with hlt | hge
      · have hdep := drawOk_dep hok hin hj ho hpa hd ht (by omega)
        rw [if_pos hlt] at hdep
        obtain ⟨o'', ho', e, he, hb, hon⟩ := Region.waitsFor_spec hdep
        rw [ho] at ho'; simp at ho'; subst ho'
        have hlj : listed.getD j false = true := by rw [← hon]; exact hall e he hb
        rw [look_putAll_some _ _ _ j p u (dstsApart_take _ i hap') (by rw [List.getElem?_take, if_pos hlt]; exact hp) (by rw [List.getElem?_take, if_pos hlt]; exact hu) hd]
        exact h1 j p u t hp hu hlj hd
      · have hnl : listed.getD j false = false := by
          rcases Nat.eq_or_lt_of_le hge with e | hgt
          · subst e; exact hiu
          · have hdep := drawOk_dep hok hin hj ho hpa hd ht (by omega)
            rw [if_neg (by omega)] at hdep
            obtain ⟨p', hp', e, he, hb, hon⟩ := Region.waitsFor_spec hdep
            rw [hpa] at hp'; simp at hp'; subst hp'
            cases hlj : listed.getD j false with
            | false => rfl
            | true =>
              have := hinv.closed j p hpa hlj e he hb
              rw [hon, hiu] at this
              cases this
        rw [look_putAll_none _ _ _ fun j' p' hp' hd' => by
          have hj' : j' < i := by
            have := lt_of_getElem? hp'
            simp at this; omega
          rw [List.getElem?_take, if_pos hj'] at hp'
          have := dstsApart_spec hap' hp' hp hd' hd
          omega]
        exact h2 t fun j' p' hp' hl' hd' => by
          have := dstsApart_spec hap' hp' hp hd' hd
          subst this
          rw [hnl] at hl'
          cases hl'
    · rw [look_putAll_none _ _ _ fun j' p' hp' hd' => hw ⟨j', p', by
        have hj' : j' < i := by
          have := lt_of_getElem? hp'
          simp at this; omega
        rwa [List.getElem?_take, if_pos hj'] at hp', hd'⟩]
      exact h2 t fun j' p' hp' _ hd' => hw ⟨j', p', hp', hd'⟩
  · intro S' μ' u w' hS hM hwi' hvu hfr'
    have hil : i < listed.size := by have := hinv.size; simp at this; omega
    have hfn : (fs.map (·.1)).Nodup := by
      obtain ⟨hil2, hie⟩ := List.getElem?_eq_some_iff.1 hfsi
      have hsub : List.Sublist fs fss.flatten := by rw [← hie]; exact List.sublist_flatten_of_mem (List.getElem_mem hil2)
      exact List.Nodup.sublist (hsub.map _) hfl.1
    have hdead : ∀ f ∈ fs, Γc[f.1]? = Γ[f.1]? := by
      intro f hf
      refine hf2 f.1 fun j fs' f' hj hf' hl e => ?_
      have := flat_idx (g := (·.1)) hfl.1 hj hfsi hf' hf e
      subst this
      rw [hiu] at hl; cases hl
    refine ⟨⟨μ', fillOb Γc fs, hfr', hwi', by rw [fillOb_length, hlen], ?_, ?_, ?_, ?_⟩, by rw [put_size]; exact hJ.tsz, by rw [put_defers]; exact hJ.dfr⟩
    · intro j fs' f hj hf hl
      by_cases e : j = i
      · subst e
        rw [hfsi] at hj; simp at hj; subst hj
        rw [fillOb_at hfn hf, hdead f hf]
      · rw [getD_set_ne false (Ne.symm e)] at hl
        rw [fillOb_ne fun k hk ek => e (flat_idx (g := (·.1)) hfl.1 hj hfsi hf hk ek.symm)]
        exact hf1 j fs' f hj hf hl
    · intro k hk
      rw [fillOb_ne fun f hf => hk i fs f hfsi hf (by simp [hil])]
      exact hf2 k fun j fs' f hj hf hl => hk j fs' f hj hf (getD_set_true hl)
    · intro j p x d hp hx hl hd
      by_cases e : j = i
      · subst e
        rw [hoL] at hp; simp at hp; subst hp
        rw [hv] at hx; simp at hx; subst hx
        have hdN : d < a.tmps.size := by rw [hJ.tsz]; exact hdlt d hd
        simp only [Act.put, hd, Array.getD_eq_getD_getElem?, Array.getElem?_setIfInBounds_self_of_lt hdN, Option.getD_some]
        exact hvu
      · rw [getD_set_ne false (Ne.symm e)] at hl
        have h3 := V.mono hS hM _ _ (h1 j p x d hp hx hl hd)
        have hne : ∀ d', o'.dst = some d' → d' ≠ d := fun d' hd' e' => by
          subst e'
          exact e (dstsApart_spec hap' hp hoL hd hd')
        cases hod : o'.dst with
        | none => exact h3
        | some d' =>
          simp only [Act.put, Array.getD_eq_getD_getElem?, Array.getElem?_setIfInBounds_ne (hne d' hod)]
          simpa only [Array.getD_eq_getD_getElem?] using h3
    · intro t ht
      have hto : o'.dst ≠ some t := ht i o' hoL (by simp [hil])
      have h3 : V S' μ' (look τ t) (a.tmps.getD t undef) := V.mono hS hM _ _ (h2 t fun j p hp hl => ht j p hp (getD_set_true hl))
      cases hod : o'.dst with
      | none => exact h3
      | some d' =>
        have hne : d' ≠ t := fun e => hto (by rw [hod, e])
        simp only [Act.put, Array.getD_eq_getD_getElem?, Array.getElem?_setIfInBounds_ne hne]
        simpa only [Array.getD_eq_getD_getElem?] using h3

/-- No panic leaves. -/
def np (Q : PQ) : PQ := fun e => match e with
  | .panic _ => fun _ _ => False
  | e => Q e

theorem wpAny_tame {P : Program} {all : List Oper} {bs : List Bool} {N : Nat} {S0 : Snap} {μ0 : List Mu} {w0 : World} {τ : List (Nat × AV)} {Γ : List Ob} {vs : List AV} {fss : List (List (Nat × List AV))} {Q : PQ}
    (hfl : fillsOk Γ fss.flatten) (hfs : fss.length = (all.take bs.length).length) (hok : drawOk all.toArray bs = true) (hdst : (all.take bs.length).all (dstLt N) = true) (hvs : vs.length = (all.take bs.length).length)
    (hat : ∀ (i : Nat) (o : Oper) (v : AV) (fs : List (Nat × List AV)) (b : Bool), (all.take bs.length)[i]? = some o → vs[i]? = some v → fss[i]? = some fs → bs[i]? = some b → TAt P all.toArray Γ o (putAll τ ((all.take bs.length).take i) (vs.take i)) v fs b)
    (htl : ROps P N all.toArray (all.drop bs.length) (putAll τ (all.take bs.length) vs) (fillOb Γ fss.flatten) (np Q)) :
    ∀ (fuel : Nat) (S : Snap) (listed : Array Bool) (a : Act) (w : World), HeadInv .any all.toArray bs.length listed → listed.toList.count false = fuel → JInv S0 μ0 w0 N τ Γ (all.take bs.length) vs fss S listed a w →
      wpAnyH P .any all.toArray (Post S0 μ0 w0 N (np Q)) (SnapOK S) fuel listed a w := by
  have hnle : bs.length ≤ all.length := by
    rcases drawOk_tail hok with e | ⟨e, _⟩
    · simp at e; omega
    · simp at e; omega
  have hdl : (all.take bs.length).length = bs.length := by simp; omega
  have hap' : dstsApart (all.take bs.length) = true := by simpa using drawOk_apart hok
  have hget : ∀ {i : Nat}, i < bs.length → (all.take bs.length)[i]? = all[i]? := fun {i} hi => by rw [List.getElem?_take, if_pos hi]
  have hsnap : ∀ {S : Snap} {listed : Array Bool} {a : Act} {w : World}, JInv S0 μ0 w0 N τ Γ (all.take bs.length) vs fss S listed a w → SnapOK S w := by
    intro S listed a w hJ
    obtain ⟨μ, Γc, _, hwi, _⟩ := hJ.ex
    exact hwi.snap
  have hend : ∀ (S : Snap) (listed : Array Bool) (a : Act) (w : World), (∀ i, i < bs.length → listed.getD i false = true) → JInv S0 μ0 w0 N τ Γ (all.take bs.length) vs fss S listed a w → wpL P all.toArray (Post S0 μ0 w0 N (np Q)) (SnapOK S) (all.drop bs.length) a w := by
    intro S listed a w hdone hJ
    obtain ⟨μ, Γc, hfr, hwi, hlen, hf1, hf2, h1, h2⟩ := hJ.ex
    have hΓ : Γc = fillOb Γ fss.flatten := by
      apply List.ext_getElem?
      intro i
      by_cases hi : ∃ f ∈ fss.flatten, f.1 = i
      · obtain ⟨f, hf, rfl⟩ := hi
        rw [fillOb_at hfl.1 hf]
        obtain ⟨fs, hfs', hff⟩ := List.mem_flatten.1 hf
        obtain ⟨j, hj, hje⟩ := List.mem_iff_getElem.1 hfs'
        exact hf1 j fs f (by rw [List.getElem?_eq_getElem hj, hje]) hff (hdone j (by omega))
      · rw [fillOb_ne fun f hf e => hi ⟨f, hf, e⟩]
        exact hf2 i fun j fs f hj hf _ e => hi ⟨f, List.mem_flatten.2 ⟨fs, List.mem_of_getElem? hj, hf⟩, e⟩
    subst hΓ
    refine htl S0 μ0 w0 S S μ a w (SExt.refl S) ⟨hfr, hwi, ?_, hJ.tsz, hJ.dfr⟩
    intro t
    by_cases ht : ∃ (j : Nat) (o : Oper), (all.take bs.length)[j]? = some o ∧ o.dst = some t
    · obtain ⟨j, o, ho, hd⟩ := ht
      have hj : j < bs.length := by have := lt_of_getElem? ho; omega
      obtain ⟨v, hv⟩ : ∃ v, vs[j]? = some v := getElem?_of_lt (by omega)
      rw [look_putAll_some _ _ _ j o v hap' ho hv hd]
      exact h1 j o v t ho hv (hdone j hj) hd
    · rw [look_putAll_none _ _ _ fun j o ho hd => ht ⟨j, o, ho, hd⟩]
      exact h2 t fun j o ho _ hd => ht ⟨j, o, ho, hd⟩
  have hcntset : ∀ {listed : Array Bool} {i fuel : Nat}, i < listed.size → listed.getD i false = false → listed.toList.count false = fuel + 1 → (listed.setIfInBounds i true).toList.count false = fuel := by
    intro listed i fuel hil hiu hcnt
    have : listed.toList[i]? = some false := by
      simp [hil] at hiu
      simp [hil, hiu]
    have := count_set this
    simp only [Array.toList_setIfInBounds]
    omega
  intro fuel
  induction fuel with
  | zero =>
    intro S listed a w hinv hcnt hJ
    have hall : ∀ j, j < all.length → listed.getD j false = true := by
      intro j hj
      have hs : j < listed.toList.length := by have := hinv.size; simp at this ⊢; omega
      cases hb : listed.toList[j] with
      | true =>
        simp at hb
        have hj' : j < listed.size := by simpa using hs
        simp [hj', hb]
      | false =>
        have : false ∈ listed.toList := by rw [← hb]; exact List.getElem_mem hs
        have := List.count_pos_iff.2 this
        omega
    have hn : bs.length = all.length := by
      rcases Nat.lt_or_ge bs.length all.length with h | h
      · have h1 := hinv.tail bs.length (Nat.le_refl _) (by simpa using h)
        have h2 := hall bs.length h
        rw [getD_both h1] at h2
        cases h2
      · omega
    have hQ := hend S listed a w (fun i hi => hall i (by omega)) hJ
    have := wpAny_rest hok (all.drop bs.length) bs.length listed a w (Nat.le_refl _) (by simp; omega) (fun j hj => by simp [List.getElem?_drop]) hinv.size
      (fun j hj => by
        have hj' : j < all.length := by simpa using hj
        rw [hall j hj', decide_eq_true (by omega)]) (hsnap hJ) hQ
    have hl0 : (all.drop bs.length).length = 0 := by simp; omega
    rw [hl0] at this
    exact this
  | succ fuel ih =>
    intro S listed a w hinv hcnt hJ
    by_cases hlo : ∃ i, i < bs.length ∧ bs.getD i false = true ∧ i ∈ Region.ready .any all.toArray listed
    · -- a loose operation that may come up is taken first
      obtain ⟨i, hin, hbi, hi⟩ := hlo
      obtain ⟨hun, o, ho, hall⟩ := mem_ready.1 hi
      have hoL : (all.take bs.length)[i]? = some o := by rw [hget hin]; simpa using ho
      obtain ⟨v, hv⟩ : ∃ v, vs[i]? = some v := getElem?_of_lt (by omega)
      obtain ⟨fs, hfsi⟩ : ∃ fs, fss[i]? = some fs := getElem?_of_lt (by omega)
      have hbi' : bs[i]? = some true := by
        simp [List.getD, List.getElem?_eq_getElem hin] at hbi
        rw [List.getElem?_eq_getElem hin, hbi]
      obtain ⟨μ, Γc, hfr, hwi, hlive, hdead, hclaim, hstep⟩ := hJ.step hfl hok hdst hinv hi hin hoL hv hfsi hvs
      have hil : i < listed.size := by have := hinv.size; simp at this; omega
      have hguard : ∀ (j : Nat) (want : Bool) (d : Nat), o.guard = some (j, want) → (all.toArray[j]?).bind (·.dst) = some d → V S μ (look (putAll τ ((all.take bs.length).take i) (vs.take i)) d) (a.tmps.getD d undef) :=
        fun j want d hg hd => hclaim d (guard_mem_looksAt hg hd)
      rcases hat i o v fs true hoL hv hfsi hbi' with ⟨_, _, h⟩ | ⟨hw, hL, hfe, _⟩ | ⟨_, _, _, h⟩
      · cases h
      · obtain ⟨u, hrun, hu⟩ := hL S μ a fun x hx => by
          cases x with
          | tmp t => exact hclaim t (tmp_mem_looksAt hx)
          | const c => simp only [AM.ev, Act.eval, V]
          | global g => simp only [AM.ev, Act.eval, V]
          | func f => exact ⟨#[], #[], rfl, by simp only [VL], by simp only [VL]⟩
        subst hfe
        refine wpAnyH_first ho (Region.noSelect_spec (drawOk_noSelect hok)) (fun c a' w' h => ?_) fuel listed a w (fun j oj hoj hne hju hno => ?_) hi (.inl ⟨wantT_spec hw hguard, hrun⟩) hwi.snap
          (ih S _ _ w (hinv.set hi hin) (hcntset hil (getD_both hun) hcnt) (hstep S μ u w (SExt.refl S) (MuLe.refl _ μ) hwi hu hfr))
        · obtain ⟨_, _, _, _, h, _⟩ := h; exact h.elim
        · rcases drawOk_loose hok hbi ho hoj hne with h | h | h
          · obtain ⟨oj', hoj', e, he, hb, hon⟩ := Region.waitsFor_spec h
            rw [hoj] at hoj'; simp at hoj'; subst hoj'
            exact absurd hon (hno e he hb)
          · obtain ⟨oi', hoi', e, he, hb, hon⟩ := Region.waitsFor_spec h
            rw [ho] at hoi'; simp at hoi'; subst hoi'
            have h1 := hall e he hb
            rw [hon, getD_both hju] at h1
            cases h1
          · exact h
      · cases h
    · by_cases hdone : ∀ i, i < bs.length → listed.getD i false = true
      · -- the head is done: the rest follows in its order
        have hQ := hend S listed a w hdone hJ
        have hlist : ∀ j, j < all.toArray.size → listed.getD j false = decide (j < bs.length) := by
          intro j hj
          by_cases e : j < bs.length
          · rw [hdone j e, decide_eq_true e]
          · rw [getD_both (hinv.tail j (by omega) hj), decide_eq_false e]
        have hcount : (all.drop bs.length).length = fuel + 1 := by
          rw [← hcnt]
          have hl : listed.toList = List.replicate bs.length true ++ List.replicate (all.length - bs.length) false := by
            apply List.ext_getElem?
            intro j
            have hsz := hinv.size
            simp at hsz
            rcases Nat.lt_or_ge j all.length with hj | hj
            · have h1 := hlist j (by simpa using hj)
              have hj' : j < listed.size := by omega
              simp [hj'] at h1
              simp only [Array.getElem?_toList, Array.getElem?_eq_getElem hj', h1]
              by_cases e : j < bs.length
              · rw [List.getElem?_append_left (by simpa using e), List.getElem?_replicate, if_pos e, decide_eq_true e]
              · rw [List.getElem?_append_right (by simp; omega), List.getElem?_replicate, if_pos (by simp; omega), decide_eq_false e]
            · rw [List.getElem?_eq_none (by simp; omega), List.getElem?_eq_none (by simp; omega)]
          rw [hl]
          simp [List.count_append, List.count_replicate]
        have := wpAny_rest hok (all.drop bs.length) bs.length listed a w (Nat.le_refl _) (by simp; omega) (fun j hj => by simp [List.getElem?_drop]) hinv.size hlist (hsnap hJ) hQ
        rwa [hcount] at this
      · -- some tame operation that is not loose is still to come: none of the rest is ready
        have hmin : ∃ i, i < bs.length ∧ listed.getD i false = false ∧ ∀ j, j < i → listed.getD j false = true := by
          have hex : ∃ i, i < bs.length ∧ listed.getD i false = false := by
            apply Classical.byContradiction
            intro hno
            refine hdone fun i hi => ?_
            cases hb : listed.getD i false with
            | true => rfl
            | false => exact absurd ⟨i, hi, hb⟩ hno
          obtain ⟨i0, h0, h1⟩ := hex
          induction i0 using Nat.strongRecOn with
          | _ i0 ihi =>
            by_cases h : ∀ j, j < i0 → listed.getD j false = true
            · exact ⟨i0, h0, h1, h⟩
            · have : ∃ j, j < i0 ∧ listed.getD j false = false := by
                apply Classical.byContradiction
                intro hno
                refine h fun j hj => ?_
                cases hb : listed.getD j false with
                | true => rfl
                | false => exact absurd ⟨j, hj, hb⟩ hno
              obtain ⟨j, hj, hb⟩ := this
              exact ihi j hj (by omega) hb
        obtain ⟨i0, h0, hb0, hlow⟩ := hmin
        have hi0 : i0 ∈ Region.ready .any all.toArray listed := by
          have hio : i0 < all.length := by omega
          refine mem_ready.2 ⟨getD_in (by have := hinv.size; simp at this; omega) hb0, all[i0], by simp [hio], fun e he hbd => hlow _ ?_⟩
          exact drawOk_edges hok (i := i0) (by simp [hio]) e he hbd
        have hnl0 : bs.getD i0 false = false := by
          cases hb : bs.getD i0 false with
          | false => rfl
          | true => exact absurd ⟨i0, h0, hb, hi0⟩ hlo
        have hready : ∀ i, i ∈ Region.ready .any all.toArray listed → i < bs.length := by
          intro i hi
          obtain ⟨_, o, ho, _⟩ := mem_ready.1 hi
          have hi' := (Array.getElem?_eq_some_iff.1 ho).1
          rcases drawOk_tail hok with e | ⟨e, hc, hs⟩
          · omega
          · rcases Nat.lt_or_ge i bs.length with h | h
            · exact h
            · exfalso
              have hsz : i0 < listed.size := by have := hinv.size; simp at this e; omega
              exact tail_waits2 hc hs e hinv (bs.length - i0) i0 rfl h0 hnl0 (getD_in hsz hb0) i h hi
        refine ⟨fun hnil => ?_, fun i hi => ?_⟩
        · rw [hnil] at hi0; cases hi0
        · have hin := hready i hi
          obtain ⟨hun, o, ho, hall⟩ := mem_ready.1 hi
          have hoL : (all.take bs.length)[i]? = some o := by rw [hget hin]; simpa using ho
          obtain ⟨v, hv⟩ : ∃ v, vs[i]? = some v := getElem?_of_lt (by omega)
          obtain ⟨fs, hfsi⟩ : ∃ fs, fss[i]? = some fs := getElem?_of_lt (by omega)
          obtain ⟨b, hbi⟩ : ∃ b, bs[i]? = some b := getElem?_of_lt hin
          obtain ⟨μ, Γc, hfr, hwi, hlive, hdead, hclaim, hstep⟩ := hJ.step hfl hok hdst hinv hi hin hoL hv hfsi hvs
          have hil : i < listed.size := by have := hinv.size; simp at this; omega
          have hguard : ∀ (j : Nat) (want : Bool) (d : Nat), o.guard = some (j, want) → (all.toArray[j]?).bind (·.dst) = some d → V S μ (look (putAll τ ((all.take bs.length).take i) (vs.take i)) d) (a.tmps.getD d undef) :=
            fun j want d hg hd => hclaim d (guard_mem_looksAt hg hd)
          have hops : ∀ x ∈ o.op.operands, V S μ (ev (putAll τ ((all.take bs.length).take i) (vs.take i)) x) (a.eval x) := fun x hx => by
            cases x with
            | tmp t => exact hclaim t (tmp_mem_looksAt hx)
            | const c => simp only [AM.ev, Act.eval, V]
            | global g => simp only [AM.ev, Act.eval, V]
            | func f => exact ⟨#[], #[], rfl, by simp only [VL], by simp only [VL]⟩
          have hgo : ∀ (S' : Snap) (μ' : List Mu) (u : Value) (w' : World), SExt S S' → MuLe w.heap.size μ μ' → WI S' μ' (fillOb Γc fs) w' → V S' μ' v u → FrI S0 μ0 w0 S' μ' w' →
              SnapOK S w' ∧ wpAnyH P .any all.toArray (Post S0 μ0 w0 N (np Q)) (SnapOK S) fuel (listed.setIfInBounds i true) (a.put o.dst u) w' := by
            intro S' μ' u w' hS hM hwi' hvu hfr'
            exact ⟨SnapOK.mono hS hwi'.snap, wpAnyH_mono (fun _ h => SnapOK.mono hS h) _ _ _ _
              (ih S' _ _ w' (hinv.set hi hin) (hcntset hil (getD_both hun) hcnt) (hstep S' μ' u w' hS hM hwi' hvu hfr'))⟩
          unfold wpOp
          rw [ho]
          dsimp only
          rcases hat i o v fs b hoL hv hfsi hbi with ⟨hw, ht, _⟩ | ⟨hw, hL, hfe, _⟩ | ⟨hw, hx, hfe, _⟩
          · rw [if_pos (wantT_spec hw hguard)]
            exact .inl (ht S μ Γc a w hlive hdead hwi hops _ _ fun S' μ' u w' hS hF hM hwi' hvu hg => hgo S' μ' u w' hS hM.le hwi' hvu (hfr.grow hS hF hM hg))
          · rw [if_pos (wantT_spec hw hguard)]
            subst hfe
            exact .inl (hL.top (Γ := Γ) S μ Γc a w hlive hdead hwi hops _ _ fun S' μ' u w' hS hF hM hwi' hvu hg => hgo S' μ' u w' hS hM.le hwi' hvu (hfr.grow hS hF hM hg))
          · rw [if_neg (by rw [wantT_spec hw hguard]; simp)]
            subst hfe
            exact hgo S μ undef w (SExt.refl S) (MuLe.refl _ μ) hwi (by rw [hx]; simp only [V]) hfr

/-- A REGION WHOSE ORDER IS DRAWN: its first operations are tame (done in whatever order they give the same; those that are loose may even come late), the others wait for them, one for another. -/
theorem RunC.draw {P : Program} {N id : Nat} {all : List Oper} {τ τ' : List (Nat × AV)} {Γ : List Ob} {fss : List (List (Nat × List AV))} {bs : List Bool} {Q : PQ} (n : Nat) (hm : P.follows .mixedOrders = true)
    (ht : TRun P all.toArray Γ (all.take n) τ τ' fss bs) (hn : bs.length = n) (hok : drawOk all.toArray bs = true) (hdst : (all.take n).all (dstLt N) = true) (hfl : fillsOk Γ fss.flatten) (h : ROps P N all.toArray (all.drop n) τ' (fillOb Γ fss.flatten) (np Q)) : RunC P N (.region id all.toArray true) τ Γ Q := by
  subst hn
  intro S0 μ0 w0 S μ a w hi
  obtain ⟨hfs, _, vs, hvs, rfl, hat⟩ := ht.chain
  have hg : Grow w { w with drawn := w.drawn + 1 } := ⟨Nat.le_refl _, fun _ _ => rfl, rfl, rfl, rfl⟩
  have key := wpAny_tame (S0 := S0) (μ0 := μ0) (w0 := w0) hfl hfs hok hdst hvs hat h all.toArray.size S (Array.replicate all.toArray.size false) a { w with drawn := w.drawn + 1 } ⟨by simp, fun j oj _ hl => ?_, fun t ht htl => ?_⟩ (by simp)
    ⟨⟨μ, Γ, hi.fr.grow (fs := []) (SExt.refl S) (SFresh.refl _ S) (MuStep.refl _ _ _) hg, ⟨hi.wi.snap, hi.wi.len, hi.wi.ver, hi.wi.own, hi.wi.sep⟩, rfl, fun j fs f _ _ hl => ?_, fun _ _ => rfl, ?_, fun t _ => hi.ci t⟩, hi.tsz, hi.dfr⟩
  · refine wp_mono (wp_region_held hm key) ?_
    rintro e a' w' ⟨S', μ', τ', Γ', hq, hi'⟩
    cases e <;> first | exact hq.elim | exact ⟨S', μ', τ', Γ', hq, hi'⟩
  · rw [getD_replicate_false] at hl; cases hl
  · simp at htl; simp [htl]
  · rw [getD_replicate_false] at hl; cases hl
  · intro j o v d _ _ hl
    rw [getD_replicate_false] at hl; cases hl

end Go.AM
