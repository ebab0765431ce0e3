/- The plain law of FnExactValidDesk: what the generated functions answer. -/
import Derived.Test.YtmgjiomflefedaaP1
import Derived.Test.YtmgjiomflefedaaAmPureG
namespace Go.Proofs.Ytmgjiomflefedaa
set_option linter.unusedSimpArgs false
set_option linter.unusedVariables false
open Go Go.AM

theorem f99_eq (n lo hi : Int) : f99 n lo hi = some (decide (lo ≤ n) && decide (n ≤ hi)) := by
  unfold f99; cases decide (lo ≤ n) <;> rfl
theorem f103_eq (n lo hi : Int) : f103 n lo hi = some (decide (lo ≤ n) && decide (n ≤ hi)) := by
  unfold f103; cases decide (lo ≤ n) <;> rfl
theorem f118_eq {c : F} (h : FOk .f32 c) : f118 c = some (fin32 c) := by
  unfold f118; rw [olet_eq, sub_self h]
theorem f98_eq {a : List F} (ha : FOks a) (sa : a.length ≤ 1048576) : f98 a = some (a.all fin32) := by
  unfold f98
  rw [loop_all (l := a) (p := fin32) false ?_ ?_]
  · cases h : a.all fin32 <;> simp [f98_k1]
  · intro v x h0 hv hx
    show f98_b1 a v = _
    unfold f98_b1
    rw [at?_of h0 hx, wrap_succ h0 hv (by omega)]
    simp [bsel_if, hv, f118_eq (ha.at hx)]
  · show f98_b1 a (a.length : Int) = _
    unfold f98_b1
    simp [bsel_if]
theorem f121_eq {c : F} (h : FOk .f32 c) : f121 c = some (fin32 c) := by
  unfold f121 f131 f136 f137 f139 f137_k1
  cases c with
  | none => simp [fwiden, fin32]
  | some b =>
    have hw := feq_refl (k := .f64) (b := FloatKind.f64.encode (FloatKind.f32.decode b)) (fwiden_ok h)
    have hw' : feq .f64 (fwiden (some b)) (fwiden (some b)) = true := hw
    have hm := fabs_max h (by simp)
    simp only [olet_eq, obind_eq, hw', Bool.not_true, bsel_false, decide_true, bsel_true, hm, Bool.not_not]
theorem f120_eq {c : F} (h : FOk .f32 c) : f120 c = some (!fin32 c) := by
  unfold f120; rw [f121_eq h]; rfl
theorem any_not {α : Type} (l : List α) (p : α → Bool) : l.any (fun x => !p x) = !l.all p := by
  induction l with
  | nil => rfl
  | cons a l ih => simp [ih]
theorem f102_eq {a : List F} (ha : FOks a) (sa : a.length ≤ 1048576) : f102 a = some (a.all fin32) := by
  unfold f102 f119 f130
  obtain ⟨r, h1, h2⟩ := loop_find (l := a) (p := fun c => !fin32 c) (step := f130_s1 a) (by
    intro v x h0 hv hx
    show f130_b1 a v = _
    unfold f130_b1
    rw [at?_of h0 hx, wrap_succ h0 hv (by omega)]
    simp [bsel_if, hv, f120_eq (ha.at hx)]) (by
    show f130_b1 a (a.length : Int) = _
    unfold f130_b1
    simp [bsel_if])
  rw [h1, any_not]
  cases h : a.all fin32 <;> simp [f130_k1, h2]
def inR (lo hi n : Int) : Bool := decide (lo ≤ n) && decide (n ≤ hi)
theorem f123_eq {a : List Int} (sa : a.length ≤ 1048576) : f123 a 1000000 = some (a.all (inR (-1000000) 1000000)) := by
  unfold f123
  rw [loop_all (l := a) (p := inR (-1000000) 1000000) false ?_ ?_]
  · cases h : a.all (inR (-1000000) 1000000) <;> simp [f123_k1]
  · intro v x h0 hv hx
    show f123_b1 a 1000000 v = _
    unfold f123_b1
    rw [at?_of h0 hx, wrap_succ h0 hv (by omega), wrap_i64 (by omega) (by omega)]
    simp only [obind_eq, olet_eq, f99_eq, hv, decide_true, bsel_if]
    rfl
  · show f123_b1 a 1000000 (a.length : Int) = _
    unfold f123_b1
    simp [bsel_if]
theorem f125_eq {a : List Int} (sa : a.length ≤ 1048576) (lo hi : Int) : f125 a lo hi = some (a.all (inR lo hi)) := by
  unfold f125 f133 f138
  obtain ⟨r, h1, h2⟩ := loop_find (l := a) (p := fun c => !inR lo hi c) (step := f138_s1 a lo hi) (by
    intro v x h0 hv hx
    show f138_b1 a lo hi v = _
    unfold f138_b1
    rw [at?_of h0 hx, wrap_succ h0 hv (by omega)]
    simp only [obind_eq, olet_eq, f134, f103_eq, hv, decide_true, bsel_if]
    rfl) (by
    show f138_b1 a lo hi (a.length : Int) = _
    unfold f138_b1
    simp [bsel_if])
  rw [h1, any_not]
  cases h : a.all (inR lo hi) <;> simp [f138_k1, h2]
theorem valid_eq {a0 a1 : Int} {a2 a3 a4 a5 : List F} {a6 a7 : Int} {a8 : List Int} (ha : DeskOk a2 a3 a4 a5 a8) :
    ∃ r, f35 a0 a1 a2 a3 a4 a5 a6 a7 a8 = some r ∧ f36 a0 a1 a2 a3 a4 a5 a6 a7 a8 = some r := by
  unfold f35 f79 f36 f58 f110 f111 f112 f97 f62 f80 f81 f82 f113 f100 f101 f124
  rw [f98_eq ha.g2 ha.s2, f98_eq ha.g3 ha.s3, f98_eq ha.g4 ha.s4, f98_eq ha.g5 ha.s5, f123_eq ha.s8, f102_eq ha.g2 ha.s2, f102_eq ha.g3 ha.s3, f102_eq ha.g4 ha.s4, f102_eq ha.g5 ha.s5]
  simp only [f99_eq, f103_eq, f125_eq ha.s8, obind_eq, olet_eq]
  rw [show IntKind.i64.wrap (0 - 1000000) = -1000000 from wrap_i64 (by omega) (by omega)]
  generalize a2.all fin32 = p2
  generalize a3.all fin32 = p3
  generalize a4.all fin32 = p4
  generalize a5.all fin32 = p5
  generalize a8.all (inR (-1000000) 1000000) = p8
  generalize decide ((a2.length : Int) = IntKind.i64.wrap (a0 * a1)) = d1
  generalize decide ((a5.length : Int) = IntKind.i64.wrap ((a4.length : Int) - 1)) = d2
  generalize decide ((a8.length : Int) = IntKind.i64.wrap (a6 * a7)) = d3
  generalize (decide (1 ≤ a0) && decide (a0 ≤ 12)) = e0
  generalize (decide (1 ≤ a1) && decide (a1 ≤ 12)) = e1
  generalize decide (1 ≤ (a3.length : Int)) = e3
  generalize decide ((a3.length : Int) ≤ 256) = e4
  generalize decide (1 ≤ (a4.length : Int)) = e5
  generalize decide ((a4.length : Int) ≤ 12) = e6
  generalize (decide (1 ≤ a6) && decide (a6 ≤ 6)) = e7
  generalize (decide (1 ≤ a7) && decide (a7 ≤ 6)) = e8
  cases e0 <;> cases e1 <;> cases d1 <;> cases p2 <;> cases e3 <;> cases e4 <;> cases p3 <;> simp only [obind_eq, bsel_true, bsel_false, Bool.and_true, Bool.and_false, Bool.true_and, Bool.false_and] <;> first
    | exact ⟨_, rfl, rfl⟩
    | (cases e5 <;> cases e6 <;> cases d2 <;> cases p4 <;> cases p5 <;> simp only [obind_eq, bsel_true, bsel_false, Bool.and_true, Bool.and_false, Bool.true_and, Bool.false_and] <;> first
        | exact ⟨_, rfl, rfl⟩
        | (cases e7 <;> cases e8 <;> cases d3 <;> cases p8 <;> exact ⟨_, rfl, rfl⟩))
theorem f7_true (a0 a1 : Int) (a2 a3 a4 a5 : List F) (a6 a7 : Int) (a8 : List Int)
    (s2 : Small a2) (s3 : Small a3) (s4 : Small a4) (s5 : Small a5) (s8 : Small a8) (g2 : FOks a2) (g3 : FOks a3) (g4 : FOks a4) (g5 : FOks a5) : f7 a0 a1 a2 a3 a4 a5 a6 a7 a8 = some true := by
  unfold f7
  obtain ⟨r, e, h⟩ := f31_ex a0 a1 a2 a3 a4 a5 a6 a7 a8 1048576 s2 s3 s4 s5 s8 (by omega) (by omega)
  rw [e]
  simp only [obind_eq, bsel_if, decide_eq_true_eq]
  split
  · rfl
  have k := h (by omega)
  have ea := f33_eq a0 a1 a2 a3 a4 a5 a6 a7 a8 k.1.1 k.1.2.1 k.1.2.2.1 k.1.2.2.2.1 k.1.2.2.2.2
  rw [ea]
  simp only [obind9_eq]
  obtain ⟨q, q1, q2⟩ := valid_eq (a0 := a0) (a1 := a1) (a6 := a6) (a7 := a7) ⟨k.1.1, k.1.2.1, k.1.2.2.1, k.1.2.2.2.1, k.1.2.2.2.2, g2, g3, g4, g5⟩
  rw [q1, q2]
  simp only [obind_eq]
  rw [f21_refl a0 a1 a2 a3 a4 a5 a6 a7 a8 k.1.1 k.1.2.1 k.1.2.2.1 k.1.2.2.2.1 k.1.2.2.2.2]
  simp
end Go.Proofs.Ytmgjiomflefedaa
