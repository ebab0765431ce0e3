/- The abstract layer, second part: names are chosen and renamed; contracts of functions; from a body's run to a contract. -/
import Derived.Test.YtmgjiomflefedaaAmCore
namespace Go.AM

mutual
def AV.ren (σ : Nat → Nat × Nat) : AV → AV
  | .sl n l => .sl n (AV.rens σ l)
  | .agg l => .agg (AV.rens σ l)
  | .tup l => .tup (AV.rens σ l)
  | .ptr l => .ptr (AV.rens σ l)
  | .fn g p q => .fn g (AV.rens σ p) (AV.rens σ q)
  | .oref o ver off len => .oref (σ o).1 (ver + (σ o).2) off len
  | .optr o ver off => .optr (σ o).1 (ver + (σ o).2) off
  | .x v => .x v
  | .f k c => .f k c
  | .cx k r i => .cx k r i
  | .bt k ik c => .bt k ik c
  | .any => .any
def AV.rens (σ : Nat → Nat × Nat) : List AV → List AV
  | [] => []
  | a :: l => AV.ren σ a :: AV.rens σ l
end
/- All names in the value are below k. -/
mutual
def AV.lt (k : Nat) : AV → Bool
  | .sl _ l => AV.lts k l
  | .agg l => AV.lts k l
  | .tup l => AV.lts k l
  | .ptr l => AV.lts k l
  | .fn _ p q => AV.lts k p && AV.lts k q
  | .oref o _ _ _ => decide (o < k)
  | .optr o _ _ => decide (o < k)
  | .x _ => true
  | .f _ _ => true
  | .cx _ _ _ => true
  | .bt _ _ _ => true
  | .any => true
def AV.lts (k : Nat) : List AV → Bool
  | [] => true
  | a :: l => AV.lt k a && AV.lts k l
end

/-- One entry as it is seen under a choice: its version less the shift. -/
def Shift (s : Nat) : Option Mu → Option Mu → Prop
  | some m', some m => s ≤ m.ver ∧ m' = { m with ver := m.ver - s }
  | none, _ => False
  | _, none => False

mutual
theorem V.unren {S : Snap} {μ μ' : List Mu} {σ : Nat → Nat × Nat} {k : Nat} (hσ : ∀ i, i < k → Shift (σ i).2 μ'[i]? μ[(σ i).1]?) : ∀ (a : AV) (v : Value), a.lt k = true → V S μ (a.ren σ) v → V S μ' a v
  | .x _, _, _, h => by simpa only [V, AV.ren] using h
  | .f _ _, _, _, h => by simpa only [V, AV.ren] using h
  | .cx _ _ _, _, _, h => by simpa only [V, AV.ren] using h
  | .bt _ _ _, _, _, h => by simpa only [V, AV.ren] using h
  | .any, _, _, _ => by simp only [V]
  | .sl n l, v, hl, h => by
    simp only [AV.lt] at hl
    simp only [V, AV.ren] at h ⊢
    obtain ⟨a, cap, h1, h2, h3⟩ := h
    refine ⟨a, cap, h1, h2, ?_⟩
    rcases h3 with h3 | ⟨b, off, cs, h4, h5, h6⟩
    · cases l with
      | nil => exact .inl rfl
      | cons a l => simp [AV.rens] at h3
    · exact .inr ⟨b, off, cs, h4, h5, VP.unren hσ l _ hl h6⟩
  | .agg l, v, hl, h => by
    simp only [AV.lt] at hl
    simp only [V, AV.ren] at h ⊢
    obtain ⟨cs, h1, h2⟩ := h
    exact ⟨cs, h1, VL.unren hσ l _ hl h2⟩
  | .tup l, v, hl, h => by
    simp only [AV.lt] at hl
    simp only [V, AV.ren] at h ⊢
    obtain ⟨cs, h1, h2⟩ := h
    exact ⟨cs, h1, VL.unren hσ l _ hl h2⟩
  | .ptr l, v, hl, h => by
    simp only [AV.lt] at hl
    simp only [V, AV.ren] at h ⊢
    obtain ⟨b, off, cs, h1, h2, h3⟩ := h
    exact ⟨b, off, cs, h1, h2, VP.unren hσ l _ hl h3⟩
  | .fn g p q, v, hl, h => by
    simp only [AV.lt, Bool.and_eq_true] at hl
    simp only [V, AV.ren] at h ⊢
    obtain ⟨ps, qs, h1, h2, h3⟩ := h
    exact ⟨ps, qs, h1, VL.unren hσ p _ hl.1 h2, VL.unren hσ q _ hl.2 h3⟩
  | .oref o ver off len, v, hl, h => by
    simp only [AV.lt, decide_eq_true_eq] at hl
    simp only [V, AV.ren] at h ⊢
    obtain ⟨m, a, cap, h1, h2, h3, h4⟩ := h
    have hs := hσ o hl
    rw [h1] at hs
    cases e : μ'[o]? with
    | none => rw [e] at hs; exact hs.elim
    | some m' =>
      rw [e] at hs
      obtain ⟨hs1, rfl⟩ := hs
      exact ⟨_, a, cap, rfl, by simp only; omega, h3, fun e => h4 (by simp only at e; omega)⟩
  | .optr o ver off, v, hl, h => by
    simp only [AV.lt, decide_eq_true_eq] at hl
    simp only [V, AV.ren] at h ⊢
    obtain ⟨m, a, h1, h2, h3, h4⟩ := h
    have hs := hσ o hl
    rw [h1] at hs
    cases e : μ'[o]? with
    | none => rw [e] at hs; exact hs.elim
    | some m' =>
      rw [e] at hs
      obtain ⟨hs1, rfl⟩ := hs
      exact ⟨_, a, rfl, by simp only; omega, h3, fun e => h4 (by simp only at e; omega)⟩
theorem VP.unren {S : Snap} {μ μ' : List Mu} {σ : Nat → Nat × Nat} {k : Nat} (hσ : ∀ i, i < k → Shift (σ i).2 μ'[i]? μ[(σ i).1]?) : ∀ (l : List AV) (vs : List Value), AV.lts k l = true → VP S μ (AV.rens σ l) vs → VP S μ' l vs
  | [], _, _, _ => by simp only [VP]
  | a :: l, v :: vs, hl, h => by
    simp only [AV.lts, Bool.and_eq_true] at hl
    simp only [VP, AV.rens] at h ⊢
    exact ⟨V.unren hσ a v hl.1 h.1, VP.unren hσ l vs hl.2 h.2⟩
  | _ :: _, [], _, h => by simp only [VP, AV.rens] at h
theorem VL.unren {S : Snap} {μ μ' : List Mu} {σ : Nat → Nat × Nat} {k : Nat} (hσ : ∀ i, i < k → Shift (σ i).2 μ'[i]? μ[(σ i).1]?) : ∀ (l : List AV) (vs : List Value), AV.lts k l = true → VL S μ (AV.rens σ l) vs → VL S μ' l vs
  | [], [], _, _ => by simp only [VL]
  | a :: l, v :: vs, hl, h => by
    simp only [AV.lts, Bool.and_eq_true] at hl
    simp only [VL, AV.rens] at h ⊢
    exact ⟨V.unren hσ a v hl.1 h.1, VL.unren hσ l vs hl.2 h.2⟩
  | [], _ :: _, _, h => by simp only [VL, AV.rens] at h
  | _ :: _, [], _, h => by simp only [VL, AV.rens] at h
end

mutual
theorem V.ren {S : Snap} {μ μ' : List Mu} {σ : Nat → Nat × Nat} (hσ : ∀ i m, μ'[i]? = some m → Shift (σ i).2 (some m) μ[(σ i).1]?) : ∀ (a : AV) (v : Value), V S μ' a v → V S μ (a.ren σ) v
  | .x _, _, h => by simpa only [V, AV.ren] using h
  | .f _ _, _, h => by simpa only [V, AV.ren] using h
  | .cx _ _ _, _, h => by simpa only [V, AV.ren] using h
  | .bt _ _ _, _, h => by simpa only [V, AV.ren] using h
  | .any, _, _ => by simp only [V, AV.ren]
  | .sl n l, v, h => by
    simp only [V, AV.ren] at h ⊢
    obtain ⟨a, cap, h1, h2, h3⟩ := h
    refine ⟨a, cap, h1, h2, ?_⟩
    rcases h3 with h3 | ⟨b, off, cs, h4, h5, h6⟩
    · subst h3; exact .inl rfl
    · exact .inr ⟨b, off, cs, h4, h5, VP.ren hσ l _ h6⟩
  | .agg l, v, h => by
    simp only [V, AV.ren] at h ⊢
    obtain ⟨cs, h1, h2⟩ := h
    exact ⟨cs, h1, VL.ren hσ l _ h2⟩
  | .tup l, v, h => by
    simp only [V, AV.ren] at h ⊢
    obtain ⟨cs, h1, h2⟩ := h
    exact ⟨cs, h1, VL.ren hσ l _ h2⟩
  | .ptr l, v, h => by
    simp only [V, AV.ren] at h ⊢
    obtain ⟨b, off, cs, h1, h2, h3⟩ := h
    exact ⟨b, off, cs, h1, h2, VP.ren hσ l _ h3⟩
  | .fn g p q, v, h => by
    simp only [V, AV.ren] at h ⊢
    obtain ⟨ps, qs, h1, h2, h3⟩ := h
    exact ⟨ps, qs, h1, VL.ren hσ p _ h2, VL.ren hσ q _ h3⟩
  | .oref o ver off len, v, h => by
    simp only [V, AV.ren] at h ⊢
    obtain ⟨m', a, cap, h1, h2, h3, h4⟩ := h
    have hs := hσ o m' h1
    cases e : μ[(σ o).1]? with
    | none => rw [e] at hs; exact hs.elim
    | some m =>
      rw [e] at hs
      obtain ⟨hs1, rfl⟩ := hs
      simp only at h2 h4
      exact ⟨m, a, cap, rfl, by omega, h3, fun e => h4 (by omega)⟩
  | .optr o ver off, v, h => by
    simp only [V, AV.ren] at h ⊢
    obtain ⟨m', a, h1, h2, h3, h4⟩ := h
    have hs := hσ o m' h1
    cases e : μ[(σ o).1]? with
    | none => rw [e] at hs; exact hs.elim
    | some m =>
      rw [e] at hs
      obtain ⟨hs1, rfl⟩ := hs
      simp only at h2 h4
      exact ⟨m, a, rfl, by omega, h3, fun e => h4 (by omega)⟩
theorem VP.ren {S : Snap} {μ μ' : List Mu} {σ : Nat → Nat × Nat} (hσ : ∀ i m, μ'[i]? = some m → Shift (σ i).2 (some m) μ[(σ i).1]?) : ∀ (l : List AV) (vs : List Value), VP S μ' l vs → VP S μ (AV.rens σ l) vs
  | [], _, _ => by simp only [VP, AV.rens]
  | a :: l, v :: vs, h => by
    simp only [VP, AV.rens] at h ⊢
    exact ⟨V.ren hσ a v h.1, VP.ren hσ l vs h.2⟩
  | _ :: _, [], h => by simp only [VP] at h
theorem VL.ren {S : Snap} {μ μ' : List Mu} {σ : Nat → Nat × Nat} (hσ : ∀ i m, μ'[i]? = some m → Shift (σ i).2 (some m) μ[(σ i).1]?) : ∀ (l : List AV) (vs : List Value), VL S μ' l vs → VL S μ (AV.rens σ l) vs
  | [], [], _ => by simp only [VL, AV.rens]
  | a :: l, v :: vs, h => by
    simp only [VL, AV.rens] at h ⊢
    exact ⟨V.ren hσ a v h.1, VL.ren hσ l vs h.2⟩
  | [], _ :: _, h => by simp only [VL] at h
  | _ :: _, [], h => by simp only [VL] at h
end

theorem AV.rens_eq_map (σ : Nat → Nat × Nat) : ∀ l : List AV, AV.rens σ l = l.map (AV.ren σ)
  | [] => rfl
  | a :: l => by simp [AV.rens, AV.rens_eq_map σ l]
theorem AV.lts_eq_all (k : Nat) : ∀ l : List AV, AV.lts k l = l.all (AV.lt k)
  | [] => rfl
  | a :: l => by simp [AV.lts, AV.lts_eq_all k l]
mutual
theorem AV.ren_of_lt0 (σ : Nat → Nat × Nat) : ∀ a : AV, a.lt 0 = true → a.ren σ = a
  | .sl n l, h => by simp only [AV.lt] at h; simp only [AV.ren, AV.rens_of_lt0 σ l h]
  | .agg l, h => by simp only [AV.lt] at h; simp only [AV.ren, AV.rens_of_lt0 σ l h]
  | .tup l, h => by simp only [AV.lt] at h; simp only [AV.ren, AV.rens_of_lt0 σ l h]
  | .ptr l, h => by simp only [AV.lt] at h; simp only [AV.ren, AV.rens_of_lt0 σ l h]
  | .fn g p q, h => by
    simp only [AV.lt, Bool.and_eq_true] at h
    simp only [AV.ren, AV.rens_of_lt0 σ p h.1, AV.rens_of_lt0 σ q h.2]
  | .oref o _ _ _, h => by simp [AV.lt] at h
  | .optr o _ _, h => by simp [AV.lt] at h
  | .x _, _ => rfl
  | .f _ _, _ => rfl
  | .cx _ _ _, _ => rfl
  | .bt _ _ _, _ => rfl
  | .any, _ => rfl
theorem AV.rens_of_lt0 (σ : Nat → Nat × Nat) : ∀ l : List AV, AV.lts 0 l = true → AV.rens σ l = l
  | [], _ => rfl
  | a :: l, h => by
    simp only [AV.lts, Bool.and_eq_true] at h
    simp only [AV.rens, AV.ren_of_lt0 σ a h.1, AV.rens_of_lt0 σ l h.2]
end
/-- A value without names does not hang on the names. -/
theorem V.pure {S : Snap} {μ μ' : List Mu} {a : AV} {v : Value} (ha : a.lt 0 = true) (h : V S μ a v) : V S μ' a v := by
  refine V.unren (μ := μ) (σ := fun i => (i, 0)) (k := 0) (fun i hi => by omega) a v ha ?_
  rw [AV.ren_of_lt0 _ _ ha]; exact h
theorem VL.pure {S : Snap} {μ μ' : List Mu} {l : List AV} {vs : List Value} (ha : AV.lts 0 l = true) (h : VL S μ l vs) : VL S μ' l vs := by
  refine VL.unren (μ := μ) (σ := fun i => (i, 0)) (k := 0) (fun i hi => by omega) l vs ha ?_
  rw [AV.rens_of_lt0 _ _ ha]; exact h

/-- The objects that a list of names chooses, each with what its version is less there. -/
def selMu (sel : List (Nat × Nat)) (μ : List Mu) : List Mu := sel.map fun p => { μ.getD p.1 ⟨0, none, 0, 0⟩ with ver := (μ.getD p.1 ⟨0, none, 0, 0⟩).ver - p.2 }
def sigma (sel : List (Nat × Nat)) (i : Nat) : Nat × Nat := sel.getD i (0, 0)
/-- Γ' is what the names chosen hold: as they are, renamed, or dropped. -/
def SelOk (sel : List (Nat × Nat)) (Γ Γ' : List Ob) : Prop :=
  Γ'.length = sel.length ∧ (sel.map (·.1)).Nodup ∧
  ∀ (i : Nat) (g' : Ob), Γ'[i]? = some g' → ∃ g, Γ[(sigma sel i).1]? = some g ∧ g.ver = g'.ver + (sigma sel i).2 ∧
    ∀ l, g'.cells = some l → AV.lts sel.length l = true ∧ g.cells = some (AV.rens (sigma sel) l)

theorem SelOk.lt {sel : List (Nat × Nat)} {Γ Γ' : List Ob} (h : SelOk sel Γ Γ') {i : Nat} (hi : i < sel.length) : (sigma sel i).1 < Γ.length := by
  obtain ⟨g', hg'⟩ := getElem?_of_lt (l := Γ') (i := i) (by rw [h.1]; exact hi)
  obtain ⟨g, hg, _⟩ := h.2.2 i g' hg'
  exact lt_of_getElem? hg
theorem length_selMu (sel : List (Nat × Nat)) (μ : List Mu) : (selMu sel μ).length = sel.length := by simp [selMu]
theorem sigma_inj {sel : List (Nat × Nat)} (hn : (sel.map (·.1)).Nodup) {i j : Nat} (hi : i < sel.length) (hj : j < sel.length) (h : (sigma sel i).1 = (sigma sel j).1) : i = j := by
  simp only [sigma, List.getD, List.getElem?_eq_getElem hi, List.getElem?_eq_getElem hj, Option.getD_some] at h
  have key := List.pairwise_iff_getElem.1 hn
  rcases Nat.lt_trichotomy i j with e | e | e
  · exact absurd (by rw [List.getElem_map, List.getElem_map]; exact h) (key i j (by simpa using hi) (by simpa using hj) e)
  · exact e
  · exact absurd (by rw [List.getElem_map, List.getElem_map]; exact h.symm) (key j i (by simpa using hj) (by simpa using hi) e)
theorem shift_selMu {S : Snap} {sel : List (Nat × Nat)} {μ : List Mu} {Γ Γ' : List Ob} {w : World} (hw : WI S μ Γ w) (hs : SelOk sel Γ Γ') (i : Nat) (hi : i < sel.length) : Shift (sigma sel i).2 (selMu sel μ)[i]? μ[(sigma sel i).1]? := by
  have h1 : sel[i]? = some (sel[i]) := List.getElem?_eq_getElem hi
  have h2 : sigma sel i = sel[i] := by simp [sigma, List.getD, h1]
  have h3 := hs.lt hi
  rw [← hw.len] at h3
  obtain ⟨m, hm⟩ := getElem?_of_lt h3
  obtain ⟨g', hg'⟩ := getElem?_of_lt (l := Γ') (i := i) (by rw [hs.1]; exact hi)
  obtain ⟨g, hg, hv, _⟩ := hs.2.2 i g' hg'
  have hver := hw.ver _ g m hg hm
  rw [hm]
  rw [h2] at hm hv ⊢
  have : (selMu sel μ)[i]? = some { m with ver := m.ver - sel[i].2 } := by
    simp only [selMu, List.getElem?_map, h1, Option.map_some, List.getD, hm, Option.getD_some]
  rw [this]
  exact ⟨by omega, rfl⟩

theorem OwnAt.unren {S : Snap} {μ μ' : List Mu} {w : World} {σ : Nat → Nat × Nat} {k : Nat} {l : List AV} {m m' : Mu} (hσ : ∀ i, i < k → Shift (σ i).2 μ'[i]? μ[(σ i).1]?) (hm : m'.blk = m.blk ∧ m'.sz = m.sz) (hl : AV.lts k l = true) (h : OwnAt S μ w (AV.rens σ l) m) : OwnAt S μ' w l m' := by
  unfold OwnAt at *
  rw [hm.1]
  split at h
  · cases l with
    | nil => rfl
    | cons a l => simp [AV.rens] at h
  · obtain ⟨h1, cs, T, h2, h3, h4⟩ := h
    exact ⟨h1, cs, T, h2, by rw [hm.2]; exact h3, VP.unren hσ l _ hl h4⟩
theorem OwnAt.ren {S : Snap} {μ μ' : List Mu} {w : World} {σ : Nat → Nat × Nat} {l : List AV} {m m' : Mu} (hσ : ∀ i m, μ'[i]? = some m → Shift (σ i).2 (some m) μ[(σ i).1]?) (hm : m'.blk = m.blk ∧ m'.sz = m.sz) (h : OwnAt S μ' w l m') : OwnAt S μ w (AV.rens σ l) m := by
  unfold OwnAt at *
  rw [← hm.1]
  split at h
  · subst h; rfl
  · obtain ⟨h1, cs, T, h2, h3, h4⟩ := h
    exact ⟨h1, cs, T, h2, by rw [← hm.2]; exact h3, VP.ren hσ l _ h4⟩
theorem OwnAt.mono {S : Snap} {B : Nat} {μ μ' : List Mu} {w : World} {l : List AV} {m : Mu} (hm : MuLe B μ μ') (h : OwnAt S μ w l m) : OwnAt S μ' w l m := by
  unfold OwnAt at *
  split at h
  · exact h
  · obtain ⟨h1, cs, T, h2, h3, h4⟩ := h
    exact ⟨h1, cs, T, h2, h3, VP.mono (SExt.refl S) hm l _ h4⟩

theorem WI.sel {S : Snap} {μ : List Mu} {Γ Γ' : List Ob} {w : World} {sel : List (Nat × Nat)} (h : WI S μ Γ w) (hs : SelOk sel Γ Γ') : WI S (selMu sel μ) Γ' w := by
  have hσ := shift_selMu h hs
  have hat : ∀ (o : Nat) (m' : Mu), (selMu sel μ)[o]? = some m' → o < sel.length ∧ ∃ m, μ[(sigma sel o).1]? = some m ∧ (sigma sel o).2 ≤ m.ver ∧ m' = { m with ver := m.ver - (sigma sel o).2 } := by
    intro o m' hm'
    have hi : o < sel.length := by have := lt_of_getElem? hm'; rwa [length_selMu] at this
    have h1 := hσ o hi
    rw [hm'] at h1
    cases e : μ[(sigma sel o).1]? with
    | none => rw [e] at h1; exact h1.elim
    | some m => rw [e] at h1; exact ⟨hi, m, rfl, h1.1, h1.2⟩
  refine ⟨h.snap, by rw [length_selMu, hs.1], ?_, ?_, ?_⟩
  · intro o g' m' hg' hm'
    obtain ⟨_, m, hm, hle, rfl⟩ := hat o m' hm'
    obtain ⟨g, hg, hv, _⟩ := hs.2.2 o g' hg'
    have := h.ver _ g m hg hm
    simp only; omega
  · intro o ver l m' hg' hm'
    obtain ⟨_, m, hm, hle, rfl⟩ := hat o m' hm'
    obtain ⟨g, hg, hv, hl⟩ := hs.2.2 o _ hg'
    obtain ⟨hl1, hl2⟩ := hl l rfl
    obtain ⟨gv, gc⟩ := g
    simp only at hl2
    subst hl2
    exact (h.own _ gv _ m hg hm).unren hσ ⟨rfl, rfl⟩ hl1
  · intro o o' g1 g1' m1 m1' b ho hgs ho' hgs' hm hm' hb hb'
    obtain ⟨hi, m, km, _, rfl⟩ := hat o m1 hm
    obtain ⟨hi', m', km', _, rfl⟩ := hat o' m1' hm'
    obtain ⟨g, hg, _, hl⟩ := hs.2.2 o g1 ho
    obtain ⟨g', hg', _, hl'⟩ := hs.2.2 o' g1' ho'
    obtain ⟨l, e⟩ := Option.isSome_iff_exists.1 hgs
    obtain ⟨l', e'⟩ := Option.isSome_iff_exists.1 hgs'
    exact sigma_inj hs.2.1 hi hi' (h.sep _ _ g g' m m' b hg (by rw [(hl l e).2]; rfl) hg' (by rw [(hl' l' e').2]; rfl) km km' hb hb')

/-- THE CONTRACT: called with args over the own objects Γ the function returns r over Γ'; nothing else has turned. -/
def Ev (P : Program) (f : FuncId) (args : List AV) (Γ : List Ob) (r : AV) (Γ' : List Ob) : Prop :=
  ∀ (S : Snap) (μ : List Mu) (w : World) (vs : Array Value), WI S μ Γ w → VL S μ args vs.toList →
    Calls P f vs w fun e w' => ∃ v S' μ', e = .returned v ∧ V S' μ' r v ∧ WI S' μ' Γ' w' ∧ FrI S μ w S' μ' w'

theorem FrI.refl {S : Snap} {μ : List Mu} {w : World} : FrI S μ w S μ w :=
  ⟨SExt.refl S, MuLe.refl _ μ, fun _ m _ hm hb => .inl ⟨m, hm, hb⟩, fun _ _ _ => rfl, Nat.le_refl _, rfl, rfl, rfl, fun _ _ h => .inl h⟩

/-- How the results of a function are read behind its body. -/
def Res (P : Program) (fn : Func) (τ : List (Nat × AV)) (Γ : List Ob) (r : AV) : Prop :=
  ∀ S μ a w, WI S μ Γ w → CI S μ τ a → ∃ v, (results fn a.tmps).run P w = .ok v w ∧ V S μ r v

/-- The claims with which a body begins. -/
def argClaims : Nat → List AV → List (Nat × AV)
  | _, [] => []
  | i, a :: l => (i, a) :: argClaims (i + 1) l

theorem look_argClaims {S : Snap} {μ : List Mu} : ∀ (l : List AV) (vs : List Value) (i t : Nat), VL S μ l vs → look (argClaims i l) t = .any ∨ (i ≤ t ∧ ∃ v, vs[t - i]? = some v ∧ V S μ (look (argClaims i l) t) v)
  | [], _, _, _, _ => .inl rfl
  | a :: l, v :: vs, i, t, h => by
    simp only [VL] at h
    simp only [argClaims, look]
    by_cases e : i = t
    · subst e
      rw [if_pos rfl]
      exact .inr ⟨Nat.le_refl _, v, by simp, h.1⟩
    · rw [if_neg e]
      rcases look_argClaims l vs (i + 1) t h.2 with k | ⟨k1, u, k2, k3⟩
      · exact .inl k
      · refine .inr ⟨by omega, u, ?_, k3⟩
        have : t - i = (t - (i + 1)) + 1 := by omega
        rw [this]; simpa using k2
  | _ :: _, [], _, _, h => by simp only [VL] at h

/-- What the names chosen at the end give: the first names are the parameters' own objects. -/
def bodyQ (P : Program) (fn : Func) (k : Nat) (r : AV) (Γ' : List Ob) : PQ := fun e τ Γ =>
  (e = .normal ∨ e = .ret) ∧ ∃ sel : List (Nat × Nat), k ≤ sel.length ∧ (∀ i, i < k → sel[i]? = some (i, 0)) ∧ Res P fn τ Γ (r.ren (sigma sel)) ∧ r.lt sel.length = true ∧ SelOk sel Γ Γ'

theorem Ev.of_run {P : Program} {f : FuncId} {fn : Func} {c : Code} {args : List AV} {Γ : List Ob} {r : AV} {Γ' : List Ob} (hf : P.funcs[f]? = some fn) (hb : fn.body = some c) (hN : args.length ≤ fn.ntmps)
    (h : RunC P fn.ntmps c (argClaims 0 args) Γ (bodyQ P fn Γ.length r Γ')) : Ev P f args Γ r Γ' := by
  intro S μ w vs hw ha
  refine calls_of_wp hf hb ?_
  have hsz : vs.size = args.length := by rw [← Array.length_toList]; exact ha.length
  refine wp_mono (h S μ w S μ _ w ⟨FrI.refl, hw, ?_, ?_, rfl⟩) ?_
  · intro t
    rcases look_argClaims args vs.toList 0 t ha with e | ⟨_, v, e1, e2⟩
    · rw [e]; simp only [V]
    · have ht : t < vs.size := by
        have := lt_of_getElem? e1
        simpa using this
      have : (vs ++ Array.replicate (fn.ntmps - vs.size) undef).getD t undef = v := by
        simp only [Array.getD_eq_getD_getElem?, Array.getElem?_append_left ht]
        simp at e1
        simp [e1]
      rw [this]; exact e2
  · simp; omega
  · rintro e a' w' ⟨S', μ', τ', Γe, ⟨he, sel, hk, hid, hres, hlt, hsel⟩, hi⟩
    obtain ⟨v, hrun, hv⟩ := hres S' μ' a' w' hi.wi hi.ci
    have hσ := shift_selMu hi.wi hsel
    have hfin : ∃ v1 S1 μ1, Ending.returned v = .returned v1 ∧ V S1 μ1 r v1 ∧ WI S1 μ1 Γ' w' ∧ FrI S μ w S1 μ1 w' := by
      refine ⟨v, S', selMu sel μ', rfl, V.unren hσ r v hlt hv, hi.wi.sel hsel, ?_⟩
      have hfr := hi.fr
      have hsig : ∀ i, i < Γ.length → sigma sel i = (i, 0) := fun i hi' => by simp [sigma, List.getD, hid i hi']
      have hat : ∀ (i : Nat) (m1 : Mu), (selMu sel μ')[i]? = some m1 → i < sel.length ∧ ∃ m, μ'[(sigma sel i).1]? = some m ∧ m1 = { m with ver := m.ver - (sigma sel i).2 } := by
        intro i m1 hm1
        have hi' : i < sel.length := by have := lt_of_getElem? hm1; rwa [length_selMu] at this
        have h1 := hσ i hi'
        rw [hm1] at h1
        cases e : μ'[(sigma sel i).1]? with
        | none => rw [e] at h1; exact h1.elim
        | some m => rw [e] at h1; exact ⟨hi', m, rfl, h1.2⟩
      refine ⟨hfr.ext, ?_, ?_, hfr.keep, hfr.size, hfr.os, hfr.tape, hfr.output, hfr.sf⟩
      · intro i m hm
        have hi' : i < Γ.length := by have := lt_of_getElem? hm; rw [hw.len] at this; exact this
        obtain ⟨m', h1, h2⟩ := hfr.le i m hm
        have h3 := hσ i (by omega)
        rw [hsig i hi'] at h3
        simp only at h3
        rw [h1] at h3
        cases e : (selMu sel μ')[i]? with
        | none => rw [e] at h3; exact h3.elim
        | some m1 =>
          rw [e] at h3
          obtain ⟨_, rfl⟩ := h3
          exact ⟨_, rfl, h2⟩
      · intro i m1 b hm1 hb
        obtain ⟨hi', m, hm, rfl⟩ := hat i m1 hm1
        rcases hfr.new _ m b hm hb with ⟨m0, k1, k2⟩ | k
        · by_cases hik : i < Γ.length
          · refine .inl ⟨m0, ?_, k2⟩
            rw [hsig i hik] at k1; exact k1
          · exfalso
            have hs : (sigma sel i).1 < Γ.length := by have := lt_of_getElem? k1; rw [hw.len] at this; exact this
            have e1 : (sigma sel (sigma sel i).1).1 = (sigma sel i).1 := by rw [hsig _ hs]
            have := sigma_inj hsel.2.1 (by omega) hi' e1
            omega
        · exact .inr k
    rcases he with rfl | rfl
    · exact ⟨hi.dfr, v, hrun, hfin⟩
    · exact ⟨hi.dfr, v, hrun, hfin⟩

end Go.AM
