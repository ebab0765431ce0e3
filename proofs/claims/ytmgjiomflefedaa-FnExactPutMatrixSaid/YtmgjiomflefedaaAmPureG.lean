/- Plain facts on floats: finite numbers. -/
import Derived.Test.YtmgjiomflefedaaAmPureL
namespace Go.AM
open Ieee

/-- A finite number of single precision. -/
def fin32 (c : F) : Bool := match c with
  | none => false
  | some b => !(single.read b).isInfinity
theorem read_cases {f : Format} (hf : f.binade ≤ f.infRung) {b : Nat} (h : (f.read b).isNaN = false) : (wrung f b < f.infRung ∧ (f.read b).isInfinity = false) ∨ (wrung f b = f.infRung ∧ f.read b = .infinity (wneg f b)) := by
  rcases Nat.lt_or_ge (wrung f b) f.infRung with h1 | h1
  · obtain ⟨m, a, e, _⟩ := read_fin f h1
    exact .inl ⟨h1, by rw [e]; rfl⟩
  · have := Nat.le_antisymm (not_nan f hf h) h1
    exact .inr ⟨this, read_inf f hf this⟩
theorem sub_self {c : F} (h : FOk .f32 c) : feq .f32 (fop .sub .f32 c c) (some 0) = fin32 c := by
  cases c with
  | none => rfl
  | some b =>
    have hn := h.some.2
    have e : fop .sub .f32 (some b) (some b) = single.sub b b := rfl
    rw [e]
    rcases read_cases (f := single) (fmt_ok .f32) hn with ⟨h1, h2⟩ | ⟨h1, h2⟩
    · obtain ⟨m, a, e1, _⟩ := read_fin single h1
      have : single.sub b b = some 0 := by
        unfold Format.sub
        rw [e1]
        have ht : signed (wneg single b) m 0 + signed (!wneg single b) m 0 = 0 := by
          unfold signed; cases wneg single b <;> simp <;> omega
        simp only [Datum.opposite, Datum.sum, Int.min_self, Int.sub_self, Int.toNat_zero, ht, if_true]
        simp [Format.write, Format.nearest, Format.word]
      rw [this]
      have h3 : fin32 (some b) = true := by simp [fin32, h2]
      rw [h3]; decide
    · have : single.sub b b = none := by
        unfold Format.sub
        rw [h2]
        cases wneg single b <;> rfl
      rw [this]
      have h3 : fin32 (some b) = false := by simp [fin32, h2, Datum.isInfinity]
      rw [h3]; rfl
theorem fabs_max {c : F} (h : FOk .f32 c) (hc : c ≠ none) : flt .f64 (some 9218868437227405311) (fabs (fwiden c)) = !fin32 c := by
  cases c with
  | none => exact absurd rfl hc
  | some b =>
    have hn := h.some.2
    have hfab : fabs (fwiden (some b)) = some (double.write (single.read b) % 9223372036854775808) := rfl
    rw [hfab]
    have hmx : wrung double 9218868437227405311 < double.infRung := by decide
    have hmw : wrung double 9218868437227405311 = 9218868437227405311 := by decide
    have hnm : wneg double 9218868437227405311 = false := by decide
    rcases read_cases (f := single) (fmt_ok .f32) hn with ⟨h1, h2⟩ | ⟨h1, h2⟩
    · obtain ⟨m, a, e1, _⟩ := read_fin single h1
      have h3 : fin32 (some b) = true := by simp [fin32, h2]
      rw [h3]
      have hw := write_neg double (d := single.read b) hn
      have hfi : (double.read (double.write (single.read b))).isInfinity = false := by
        rw [e1]; exact widen_finite (b := b) e1
      have hlt : wrung double (double.write (single.read b)) < double.infRung := by
        rcases Nat.lt_or_ge (wrung double (double.write (single.read b))) double.infRung with k | k
        · exact k
        · rw [read_inf double (fmt_ok .f64) (Nat.le_antisymm hw.2 k)] at hfi; cases hfi
      have hr : double.write (single.read b) % 9223372036854775808 = wrung double (double.write (single.read b)) := rfl
      rw [hr]
      generalize wrung double (double.write (single.read b)) = r at hlt
      have hrs : r < 9223372036854775808 := Nat.lt_trans hlt (by decide)
      have hwr : wrung double r = r := Nat.mod_eq_of_lt hrs
      have hwn : wneg double r = false := by
        unfold wneg
        rw [show double.signWeight = 9223372036854775808 from by decide, Nat.div_eq_of_lt hrs]; rfl
      have ho : double.order 9218868437227405311 r = some (compare (sval false (rval double 9218868437227405311)) (sval false (rval double r))) := by
        rw [order_fin double hmx (by rw [hwr]; exact hlt), hnm, hmw, hwr, hwn]
      have hle : rval double r ≤ rval double 9218868437227405311 := rval_le double (by
        have : double.infRung = 9218868437227405312 := by decide
        omega)
      have hcmp : compare (sval false (rval double 9218868437227405311)) (sval false (rval double r)) ≠ .lt := by
        intro hc'
        have := Int.compare_eq_lt.1 hc'
        simp [sval] at this
        omega
      have : flt .f64 (some 9218868437227405311) (some r) = (double.order 9218868437227405311 r == some .lt) := rfl
      rw [this, ho]
      simp [hcmp]
    · have h3 : fin32 (some b) = false := by simp [fin32, h2, Datum.isInfinity]
      rw [h3, h2]
      cases wneg single b <;> decide
/-- The first element that fails is looked for. -/
theorem loop_find {α : Type} {l : List α} {p : α → Bool} {step : Int → Option (LR Int Unit Int)}
    (hstep : ∀ (v : Int) (x : α), 0 ≤ v → v < l.length → l[v.toNat]? = some x → step v = if p x then some (.ret v) else some (.next (v + 1))) (hend : step l.length = some (.out ())) :
    ∃ r : Int, loopM step 0 = some (if l.any p then .inr r else .inl ()) ∧ 0 ≤ r := by
  have key : ∀ (k i : Nat), k + i = l.length → ∃ r : Int, loopM step (i : Int) = some (if (l.drop i).any p then .inr r else .inl ()) ∧ 0 ≤ r := by
    intro k
    induction k with
    | zero =>
      intro i hi
      have : i = l.length := by omega
      subst this
      refine ⟨0, ?_, Int.le_refl _⟩
      rw [loopM_out hend, List.drop_length]; simp
    | succ k ih =>
      intro i hi
      have hl : i < l.length := by omega
      have hs := hstep i l[i] (by omega) (by omega) (by simp [hl])
      rw [List.drop_eq_getElem_cons hl, List.any_cons]
      by_cases e : p l[i] = true
      · rw [if_pos e] at hs
        exact ⟨i, by rw [loopM_ret hs, e]; simp, by omega⟩
      · rw [if_neg e] at hs
        simp only [Bool.not_eq_true] at e
        obtain ⟨r, h1, h2⟩ := ih (i + 1) (by omega)
        exact ⟨r, by rw [loopM_next hs, show ((i : Int) + 1) = ((i + 1 : Nat) : Int) by omega, h1, e, Bool.false_or], h2⟩
  have := key l.length 0 (by omega)
  simpa using this
end Go.AM
