/- Plain facts on loops over lists. -/
import Derived.Test.YtmgjiomflefedaaAmPureF
namespace Go.AM

theorem at?_of {α : Type} {l : List α} {v : Int} {x : α} (h0 : 0 ≤ v) (h : l[v.toNat]? = some x) : at? l v = some x := by
  unfold at?; rw [if_pos h0]; exact h
theorem setAt?_of {α : Type} {l : List α} {v : Int} {x : α} (h0 : 0 ≤ v) (h : v.toNat < l.length) : setAt? l v x = some (l.set v.toNat x) := by
  unfold setAt?; rw [if_pos ⟨h0, h⟩]

/-- Two lists of one length, compared place by place. -/
theorem loop_eq {α : Type} [DecidableEq α] {l m : List α} (hlen : l.length = m.length) {step : Int → Option (LR Int Unit Bool)}
    (hstep : ∀ (v : Int) (x y : α), 0 ≤ v → v < l.length → l[v.toNat]? = some x → m[v.toNat]? = some y → step v = if x = y then some (.next (v + 1)) else some (.ret false)) (hend : step l.length = some (.out ())) :
    loopM step 0 = some (if l = m then .inl () else .inr false) := by
  have key : ∀ (k i : Nat), k + i = l.length → loopM step (i : Int) = some (if l.drop i = m.drop i then .inl () else .inr false) := by
    intro k
    induction k with
    | zero =>
      intro i hi
      have : i = l.length := by omega
      subst this
      rw [loopM_out hend, List.drop_length, hlen, List.drop_length, if_pos rfl]
    | succ k ih =>
      intro i hi
      have hl : i < l.length := by omega
      have hm : i < m.length := by omega
      have hs := hstep i l[i] m[i] (by omega) (by omega) (by simp [hl]) (by simp [hm])
      rw [List.drop_eq_getElem_cons hl, List.drop_eq_getElem_cons hm]
      by_cases e : l[i] = m[i]
      · rw [if_pos e] at hs
        rw [loopM_next hs, show ((i : Int) + 1) = ((i + 1 : Nat) : Int) by omega, ih (i + 1) (by omega), e]
        simp only [List.cons.injEq, true_and]
      · rw [if_neg e] at hs
        rw [loopM_ret hs, if_neg (fun h => e (List.cons.inj h).1)]
  have := key l.length 0 (by omega)
  simpa using this
/-- A list whose every element passes. -/
theorem loop_all {α : Type} {l : List α} {p : α → Bool} {step : Int → Option (LR Int Unit Bool)} (b : Bool)
    (hstep : ∀ (v : Int) (x : α), 0 ≤ v → v < l.length → l[v.toNat]? = some x → step v = if p x then some (.next (v + 1)) else some (.ret b)) (hend : step l.length = some (.out ())) :
    loopM step 0 = some (if l.all p then .inl () else .inr b) := by
  have key : ∀ (k i : Nat), k + i = l.length → loopM step (i : Int) = some (if (l.drop i).all p then .inl () else .inr b) := by
    intro k
    induction k with
    | zero =>
      intro i hi
      have : i = l.length := by omega
      subst this
      rw [loopM_out hend, List.drop_length]; simp
    | succ k ih =>
      intro i hi
      have hl : i < l.length := by omega
      have hs := hstep i l[i] (by omega) (by omega) (by simp [hl])
      rw [List.drop_eq_getElem_cons hl, List.all_cons]
      by_cases e : p l[i] = true
      · rw [if_pos e] at hs
        rw [loopM_next hs, show ((i : Int) + 1) = ((i + 1 : Nat) : Int) by omega, ih (i + 1) (by omega), e, Bool.true_and]
      · rw [if_neg e] at hs
        simp only [Bool.not_eq_true] at e
        rw [loopM_ret hs, e]; simp
  have := key l.length 0 (by omega)
  simpa using this
/-- A list copied place by place. -/
theorem loop_copy {α ρ : Type} {a : List α} {step : List α × Int → Option (LR (List α × Int) (List α) ρ)}
    (hstep : ∀ (L : List α) (v : Int) (x : α), 0 ≤ v → v < a.length → a[v.toNat]? = some x → L.length = a.length → step (L, v) = some (.next (L.set v.toNat x, v + 1))) (hend : ∀ L : List α, L.length = a.length → step (L, a.length) = some (.out L)) (z : List α) (hz : z.length = a.length) :
    loopM step (z, 0) = some (.inl a) := by
  have key : ∀ (k i : Nat) (L : List α), k + i = a.length → L.length = a.length → L.take i = a.take i → loopM step (L, (i : Int)) = some (.inl a) := by
    intro k
    induction k with
    | zero =>
      intro i L hi hL ht
      have : i = a.length := by omega
      subst this
      rw [List.take_length, ← hL, List.take_length] at ht
      subst ht
      exact loopM_out (hend L hL)
    | succ k ih =>
      intro i L hi hL ht
      have hl : i < a.length := by omega
      rw [loopM_next (hstep L i a[i] (by omega) (by omega) (by simp [hl]) hL), show ((i : Int) + 1) = ((i + 1 : Nat) : Int) by omega]
      refine ih (i + 1) _ (by omega) (by simpa using hL) ?_
      have e : (i : Int).toNat = i := by omega
      rw [e, List.take_succ_eq_append_getElem (by simp; omega), List.take_succ_eq_append_getElem hl, List.take_set_of_le (Nat.le_refl _), ht]
      simp
  exact key a.length 0 z (by omega) hz (by simp)
theorem wrap_succ {v : Int} {n : Nat} (h0 : 0 ≤ v) (h : v < n) (hn : n ≤ 9223372036854775807) : IntKind.i64.wrap (v + 1) = v + 1 := wrap_i64 (by omega) (by omega)
end Go.AM
