/- The plain laws of FnExactSameDesk and FnExactValidDesk: what the generated functions answer. -/
import Derived.Test.YtmgjiomflefedaaG1p2
import Derived.Test.YtmgjiomflefedaaAmPureL
namespace Go.Proofs.Ytmgjiomflefedaa
open Go Go.AM

/-! sizes -/
def Small {α : Type} (l : List α) : Prop := l.length ≤ 9223372036854775807
theorem sz_one (n : Nat) (a : Int) (hn : n ≤ 9223372036854775807) (h0 : 0 ≤ a) (h1 : a ≤ 1048576) :
    ∃ r, olet (IntKind.i64.wrap (a - (n : Int))) (fun x1 => bsel (decide (x1 < 0)) (some (-1)) (some x1)) = some r ∧ (0 ≤ r → (n : Int) ≤ a ∧ r ≤ a) := by
  rw [wrap_i64 (by omega) (by omega)]
  simp only [olet_eq, bsel_if, decide_eq_true_eq]
  split
  · exact ⟨_, rfl, fun h => by omega⟩
  · exact ⟨_, rfl, fun h => by omega⟩
theorem f57_ex (l : List F) (a : Int) (hn : Small l) (h0 : 0 ≤ a) (h1 : a ≤ 1048576) : ∃ r, f57 l a = some r ∧ (0 ≤ r → (l.length : Int) ≤ a ∧ r ≤ a) := sz_one l.length a hn h0 h1
theorem f105_ex (l : List Int) (a : Int) (hn : Small l) (h0 : 0 ≤ a) (h1 : a ≤ 1048576) : ∃ r, f105 l a = some r ∧ (0 ≤ r → (l.length : Int) ≤ a ∧ r ≤ a) := sz_one l.length a hn h0 h1
theorem f24_ex (x y : Int) (l : List F) (a : Int) (hn : Small l) (h0 : 0 ≤ a) (h1 : a ≤ 1048576) : ∃ r, f24 x y l a = some r ∧ (0 ≤ r → (l.length : Int) ≤ a ∧ r ≤ a) := by
  obtain ⟨r, e, h⟩ := f57_ex l a hn h0 h1
  unfold f24
  rw [e]
  simp only [obind_eq, bsel_if, decide_eq_true_eq]
  split
  · exact ⟨_, rfl, fun h => by omega⟩
  · exact ⟨_, rfl, h⟩
theorem f68_ex (x y : Int) (l : List Int) (a : Int) (hn : Small l) (h0 : 0 ≤ a) (h1 : a ≤ 1048576) : ∃ r, f68 x y l a = some r ∧ (0 ≤ r → (l.length : Int) ≤ a ∧ r ≤ a) := by
  obtain ⟨r, e, h⟩ := f105_ex l a hn h0 h1
  unfold f68
  rw [e]
  simp only [obind_eq, bsel_if, decide_eq_true_eq]
  split
  · exact ⟨_, rfl, fun h => by omega⟩
  · exact ⟨_, rfl, h⟩
theorem f67_ex (l m : List F) (a : Int) (hn : Small l) (hm : Small m) (h0 : 0 ≤ a) (h1 : a ≤ 1048576) : ∃ r, f67 l m a = some r ∧ (0 ≤ r → (l.length : Int) ≤ a ∧ (m.length : Int) ≤ a ∧ r ≤ a) := by
  obtain ⟨r, e, h⟩ := f57_ex l a hn h0 h1
  unfold f67
  rw [e]
  simp only [obind_eq, bsel_if, decide_eq_true_eq]
  split
  · exact ⟨_, rfl, fun h => by omega⟩
  · rename_i hr
    obtain ⟨k1, k2⟩ := h (by omega)
    obtain ⟨r2, e2, h2⟩ := f57_ex m r hm (by omega) (by omega)
    rw [e2]
    simp only [obind_eq]
    split
    · exact ⟨_, rfl, fun h => by omega⟩
    · exact ⟨_, rfl, fun h3 => by have := h2 h3; omega⟩
theorem f31_ex (a0 a1 : Int) (a2 a3 a4 a5 : List F) (a6 a7 : Int) (a8 : List Int) (a : Int) (s2 : Small a2) (s3 : Small a3) (s4 : Small a4) (s5 : Small a5) (s8 : Small a8) (h0 : 0 ≤ a) (h1 : a ≤ 1048576) :
    ∃ r, f31 a0 a1 a2 a3 a4 a5 a6 a7 a8 a = some r ∧ (0 ≤ r → (a2.length ≤ 1048576 ∧ a3.length ≤ 1048576 ∧ a4.length ≤ 1048576 ∧ a5.length ≤ 1048576 ∧ a8.length ≤ 1048576) ∧ r ≤ a) := by
  obtain ⟨r1, e1, h2⟩ := f24_ex a0 a1 a2 a s2 h0 h1
  unfold f31
  rw [e1]
  simp only [obind_eq, bsel_if, decide_eq_true_eq]
  split
  · exact ⟨_, rfl, fun h => by omega⟩
  have k1 := h2 (by omega)
  obtain ⟨r2, e2, h3⟩ := f57_ex a3 r1 s3 (by omega) (by omega)
  rw [e2]
  simp only [obind_eq]
  split
  · exact ⟨_, rfl, fun h => by omega⟩
  have k2 := h3 (by omega)
  obtain ⟨r3, e3, h4⟩ := f67_ex a4 a5 r2 s4 s5 (by omega) (by omega)
  rw [e3]
  simp only [obind_eq]
  split
  · exact ⟨_, rfl, fun h => by omega⟩
  have k3 := h4 (by omega)
  obtain ⟨r4, e4, h5⟩ := f68_ex a6 a7 a8 r3 s8 (by omega) (by omega)
  rw [e4]
  simp only [obind_eq]
  split
  · exact ⟨_, rfl, fun h => by omega⟩
  have k4 := h5 (by omega)
  exact ⟨_, rfl, fun h => by omega⟩

/-! copies -/
theorem f61_eq (a : List F) (h : a.length ≤ 1048576) : f61 a = some a := by
  unfold f61
  have hm : mkok 4 (a.length : Int) = true := by simp [mkok]; omega
  rw [hm, need_true, loop_copy (a := a) (ρ := List F) ?_ ?_ _ (by simp)]
  · rfl
  · intro L v x h0 hv hx hL
    show f61_b1 a L v = _
    unfold f61_b1
    have hs := setAt?_of (l := L) (x := x) h0 (by omega)
    simp [bsel_if, hv, at?_of h0 hx, hs, wrap_succ h0 hv (by omega : a.length ≤ 9223372036854775807)]
  · intro L hL
    show f61_b1 a L (a.length : Int) = _
    unfold f61_b1
    simp [bsel_if]
theorem f106_eq (a : List Int) (h : a.length ≤ 1048576) : f106 a = some a := by
  unfold f106
  have hm : mkok 8 (a.length : Int) = true := by simp [mkok]; omega
  rw [hm, need_true, loop_copy (a := a) (ρ := List Int) ?_ ?_ _ (by simp)]
  · rfl
  · intro L v x h0 hv hx hL
    show f106_b1 a L v = _
    unfold f106_b1
    have hs := setAt?_of (l := L) (x := x) h0 (by omega)
    simp [bsel_if, hv, at?_of h0 hx, hs, wrap_succ h0 hv (by omega : a.length ≤ 9223372036854775807)]
  · intro L hL
    show f106_b1 a L (a.length : Int) = _
    unfold f106_b1
    simp [bsel_if]
theorem f33_eq (a0 a1 : Int) (a2 a3 a4 a5 : List F) (a6 a7 : Int) (a8 : List Int) (s2 : a2.length ≤ 1048576) (s3 : a3.length ≤ 1048576) (s4 : a4.length ≤ 1048576) (s5 : a5.length ≤ 1048576) (s8 : a8.length ≤ 1048576) :
    f33 a0 a1 a2 a3 a4 a5 a6 a7 a8 = some (a0, a1, a6, a7, a2, a3, a4, a5, a8) := by
  unfold f33 f26 f73 f74
  rw [f61_eq a2 s2, f61_eq a3 s3, f61_eq a4 s4, f61_eq a5 s5, f106_eq a8 s8]
  rfl

/-! equality of a thing with itself -/
theorem f93_refl (c : F) : f93 c c = some true := by
  unfold f93
  cases h : feq .f64 c c <;> simp [f93_k1, h, bsel_if]
theorem f48_refl (a : List F) (h : a.length ≤ 1048576) : f48 a a = some true := by
  unfold f48
  rw [loop_eq (l := a) (m := a) rfl ?_ ?_]
  · simp [bsel_if, f48_k1]
  · intro v x y h0 hv hx hy
    rw [hx] at hy; cases hy
    show f48_b1 a a v = _
    unfold f48_b1
    rw [at?_of h0 hx, wrap_succ h0 hv (by omega)]
    simp [bsel_if, hv, f93_refl]
  · show f48_b1 a a (a.length : Int) = _
    unfold f48_b1
    simp [bsel_if]
theorem f94_refl (a : List Int) (h : a.length ≤ 1048576) : f94 a a = some true := by
  unfold f94
  rw [loop_eq (l := a) (m := a) rfl ?_ ?_]
  · simp [bsel_if, f94_k1]
  · intro v x y h0 hv hx hy
    rw [hx] at hy; cases hy
    show f94_b1 a a v = _
    unfold f94_b1
    rw [at?_of h0 hx, wrap_succ h0 hv (by omega)]
    simp [bsel_if, hv]
  · show f94_b1 a a (a.length : Int) = _
    unfold f94_b1
    simp [bsel_if]
theorem f21_refl (a0 a1 : Int) (a2 a3 a4 a5 : List F) (a6 a7 : Int) (a8 : List Int) (s2 : a2.length ≤ 1048576) (s3 : a3.length ≤ 1048576) (s4 : a4.length ≤ 1048576) (s5 : a5.length ≤ 1048576) (s8 : a8.length ≤ 1048576) :
    f21 a0 a1 a2 a3 a4 a5 a6 a7 a8 a0 a1 a2 a3 a4 a5 a6 a7 a8 = some true := by
  unfold f21 f28 f49 f50
  rw [f48_refl a2 s2, f48_refl a3 s3, f48_refl a4 s4, f48_refl a5 s5, f94_refl a8 s8]
  simp

/-! the same numbers -/
theorem f117_none : f117 none = some 2143289344 := by
  unfold f117; simp
theorem f117_some {b : Nat} (h : FOk .f32 (some b)) : f117 (some b) = some (b : Int) := by
  unfold f117
  rw [feq_refl h]
  have := h.some.1
  have hb : b < 4294967296 := this
  simp only [Bool.not_true, bsel_false, obind_eq, olet_eq]
  rw [wrap_i64 (by omega) (by omega)]
theorem f92_eq {c d : F} (hc : FOk .f32 c) (hd : FOk .f32 d) : f92 c d = some (decide (c = d)) := by
  unfold f92
  have hne : ∀ b, FOk .f32 (some b) → b ≠ 2143289344 := by
    intro b hb e
    subst e
    have := hb.some.2
    revert this; decide
  cases c with
  | none =>
    cases d with
    | none => simp [f117_none]
    | some b => have := hne b hd; simp [f117_none, f117_some hd]; omega
  | some a =>
    cases d with
    | none => have := hne a hc; simp [f117_none, f117_some hc]; omega
    | some b => simp [f117_some hc, f117_some hd]; omega
theorem f122_widen {b : Nat} (h : FOk .f32 (some b)) : f122 (fwiden (some b)) = some (wneg Ieee.single b) := by
  unfold f122
  have hok := (fwiden_ok h)
  simp only [fwiden, Option.map_some] at hok ⊢
  have hlt : FloatKind.f64.encode (FloatKind.f32.decode b) < 18446744073709551616 := hok.some.1
  have hn := widen_neg h
  generalize FloatKind.f64.encode (FloatKind.f32.decode b) = w at hlt hn
  rw [← hn]
  simp only [obind_eq, olet_eq]
  congr 1
  have e : wneg Ieee.double w = decide (9223372036854775808 ≤ w) := by
    unfold wneg
    show (w / 9223372036854775808 % 2 == 1) = _
    by_cases h1 : 9223372036854775808 ≤ w
    · have : w / 9223372036854775808 = 1 := by omega
      simp [this, h1]
    · have : w / 9223372036854775808 = 0 := by omega
      simp [this, h1]
  rw [e]
  have : IntKind.i64.wrap (w : Int) = if w < 9223372036854775808 then (w : Int) else (w : Int) - 18446744073709551616 := by
    simp only [IntKind.wrap, IntKind.bits, IntKind.signed]
    simp
    split <;> split <;> omega
  rw [this]
  by_cases h1 : w < 9223372036854775808
  · rw [if_pos h1]; simp; omega
  · rw [if_neg h1]; simp; omega
theorem f108_eq {c d : F} (hc : FOk .f32 c) (hd : FOk .f32 d) : f108 c d = some (decide (c = d)) := by
  unfold f108
  cases c with
  | none =>
    cases d with
    | none => simp
    | some b => simp [feq_refl hd]
  | some a =>
    cases d with
    | none => simp [feq_refl hc]
    | some b =>
      rw [feq_refl hc, feq_refl hd]
      simp only [Bool.not_true, bsel_false, olet_eq, f122_widen hc, f122_widen hd, obind_eq]
      cases ho : feq .f32 (some a) (some b) with
      | false =>
        rw [bsel_false]
        have : a ≠ b := fun e => by subst e; rw [feq_refl hc] at ho; cases ho
        simp [this]
      | true =>
        rw [bsel_true]
        have ho' : Ieee.single.order a b = some .eq := by
          simp only [feq, ford, Option.bind_some] at ho
          have : FloatKind.f32.format.order a b = some .eq := by simpa using ho
          exact this
        congr 1
        by_cases hs : wneg Ieee.single a = wneg Ieee.single b
        · have := eq_of_order (f := Ieee.single) (fmt_ok .f32) hc.some.1 hd.some.1 hc.some.2 hd.some.2 ho' hs
          subst this; simp
        · have : a ≠ b := fun e => hs (by rw [e])
          simp [this, hs]
def FOks (l : List F) : Prop := ∀ c ∈ l, FOk .f32 c
theorem FOks.at {l : List F} (h : FOks l) {i : Nat} {c : F} (e : l[i]? = some c) : FOk .f32 c := h c (List.mem_of_getElem? e)
theorem f70_eq {a b : List F} (ha : FOks a) (hb : FOks b) (sa : a.length ≤ 1048576) : f70 a b = some (decide (a = b)) := by
  unfold f70
  by_cases hl : a.length = b.length
  · rw [loop_eq (l := a) (m := b) hl ?_ ?_]
    · by_cases e : a = b
      · simp [e, f70_k1]
      · simp [hl, e]
    · intro v x y h0 hv hx hy
      show f70_b1 a b v = _
      unfold f70_b1
      rw [at?_of h0 hx, at?_of h0 hy, wrap_succ h0 hv (by omega)]
      simp [bsel_if, hv, f92_eq (ha.at hx) (hb.at hy)]
    · show f70_b1 a b (a.length : Int) = _
      unfold f70_b1
      simp [bsel_if]
  · have : a ≠ b := fun e => hl (by rw [e])
    have hl' : ¬ (a.length : Int) = (b.length : Int) := by omega
    simp [hl', this]
theorem f107_eq {a b : List F} (ha : FOks a) (hb : FOks b) (sa : a.length ≤ 1048576) : f107 a b = some (decide (a = b)) := by
  unfold f107
  by_cases hl : a.length = b.length
  · rw [loop_eq (l := a) (m := b) hl ?_ ?_]
    · by_cases e : a = b
      · simp [e, f107_k1]
      · simp [hl, e]
    · intro v x y h0 hv hx hy
      show f107_b1 a b v = _
      unfold f107_b1
      rw [at?_of h0 hx, at?_of h0 hy, wrap_succ h0 hv (by omega)]
      simp [bsel_if, hv, f108_eq (ha.at hx) (hb.at hy)]
    · show f107_b1 a b (a.length : Int) = _
      unfold f107_b1
      simp [bsel_if]
  · have : a ≠ b := fun e => hl (by rw [e])
    have hl' : ¬ (a.length : Int) = (b.length : Int) := by omega
    simp [hl', this]
theorem f109_eq {a b : List Int} (sa : a.length ≤ 1048576) : f109 a b = some (decide (a = b)) := by
  unfold f109
  by_cases hl : a.length = b.length
  · rw [loop_eq (l := a) (m := b) hl ?_ ?_]
    · by_cases e : a = b
      · simp [e, f109_k1]
      · simp [hl, e]
    · intro v x y h0 hv hx hy
      show f109_b1 a b v = _
      unfold f109_b1
      rw [at?_of h0 hx, at?_of h0 hy, wrap_succ h0 hv (by omega)]
      by_cases e : x = y <;> simp [bsel_if, hv, e]
    · show f109_b1 a b (a.length : Int) = _
      unfold f109_b1
      simp [bsel_if]
  · have : a ≠ b := fun e => hl (by rw [e])
    have hl' : ¬ (a.length : Int) = (b.length : Int) := by omega
    simp [hl', this]
theorem f72_eq {x0 x1 y0 y1 : Int} {a b : List Int} (sa : a.length ≤ 1048576) : f72 x0 x1 a y0 y1 b = some (decide (x0 = y0) && decide (x1 = y1) && decide (a = b)) := by
  unfold f72
  by_cases h0 : x0 = y0
  · by_cases h1 : x1 = y1
    · by_cases hl : a.length = b.length
      · rw [loop_eq (l := a) (m := b) hl ?_ ?_]
        · by_cases e : a = b
          · simp [e, f72_k1, h0, h1]
          · simp [hl, e, h0, h1]
        · intro v x y h0 hv hx hy
          show f72_b1 a b v = _
          unfold f72_b1
          rw [at?_of h0 hx, at?_of h0 hy, wrap_succ h0 hv (by omega)]
          by_cases e : x = y <;> simp [bsel_if, hv, e]
        · show f72_b1 a b (a.length : Int) = _
          unfold f72_b1
          simp [bsel_if]
      · have : a ≠ b := fun e => hl (by rw [e])
        have hl' : ¬ (a.length : Int) = (b.length : Int) := by omega
        simp [hl', this, h0, h1]
    · simp [h0, h1]
  · simp [h0]

structure DeskOk (a2 a3 a4 a5 : List F) (a8 : List Int) : Prop where
  s2 : a2.length ≤ 1048576
  s3 : a3.length ≤ 1048576
  s4 : a4.length ≤ 1048576
  s5 : a5.length ≤ 1048576
  s8 : a8.length ≤ 1048576
  g2 : FOks a2
  g3 : FOks a3
  g4 : FOks a4
  g5 : FOks a5

theorem same_eq {a0 a1 : Int} {a2 a3 a4 a5 : List F} {a6 a7 : Int} {a8 : List Int} {b0 b1 : Int} {b2 b3 b4 b5 : List F} {b6 b7 : Int} {b8 : List Int} (ha : DeskOk a2 a3 a4 a5 a8) (hb : DeskOk b2 b3 b4 b5 b8) :
    ∃ r, f32 a0 a1 a2 a3 a4 a5 a6 a7 a8 b0 b1 b2 b3 b4 b5 b6 b7 b8 = some r ∧ f34 a0 a1 a2 a3 a4 a5 a6 a7 a8 b0 b1 b2 b3 b4 b5 b6 b7 b8 = some r := by
  refine ⟨decide (a0 = b0) && decide (a1 = b1) && decide (a2 = b2) && decide (a3 = b3) && decide (a4 = b4) && decide (a5 = b5) && decide (a6 = b6) && decide (a7 = b7) && decide (a8 = b8), ?_, ?_⟩
  · unfold f32 f69 f71
    rw [f70_eq ha.g2 hb.g2 ha.s2, f70_eq ha.g3 hb.g3 ha.s3, f70_eq ha.g4 hb.g4 ha.s4, f70_eq ha.g5 hb.g5 ha.s5, f72_eq ha.s8]
    by_cases e0 : a0 = b0 <;> by_cases e1 : a1 = b1 <;> by_cases e2 : a2 = b2 <;> by_cases e3 : a3 = b3 <;> by_cases e4 : a4 = b4 <;> simp [e0, e1, e2, e3, e4, bsel_if] <;>
      by_cases e5 : a5 = b5 <;> simp [e5]
  · unfold f34 f75 f77 f78 f76
    rw [f107_eq ha.g2 hb.g2 ha.s2, f107_eq ha.g3 hb.g3 ha.s3, f107_eq ha.g4 hb.g4 ha.s4, f107_eq ha.g5 hb.g5 ha.s5, f109_eq ha.s8]
    by_cases e0 : a0 = b0 <;> by_cases e1 : a1 = b1 <;> by_cases e2 : a2 = b2 <;> by_cases e3 : a3 = b3 <;> by_cases e4 : a4 = b4 <;> simp [e0, e1, e2, e3, e4, bsel_if] <;>
      by_cases e5 : a5 = b5 <;> simp [e5] <;> by_cases e6 : a6 = b6 <;> by_cases e7 : a7 = b7 <;> simp [e6, e7]

theorem f6_true (a0 a1 : Int) (a2 a3 a4 a5 : List F) (a6 a7 : Int) (a8 : List Int) (b0 b1 : Int) (b2 b3 b4 b5 : List F) (b6 b7 : Int) (b8 : List Int)
    (s2 : Small a2) (s3 : Small a3) (s4 : Small a4) (s5 : Small a5) (s8 : Small a8) (t2 : Small b2) (t3 : Small b3) (t4 : Small b4) (t5 : Small b5) (t8 : Small b8)
    (g2 : FOks a2) (g3 : FOks a3) (g4 : FOks a4) (g5 : FOks a5) (k2 : FOks b2) (k3 : FOks b3) (k4 : FOks b4) (k5 : FOks b5) :
    f6 a0 a1 a2 a3 a4 a5 a6 a7 a8 b0 b1 b2 b3 b4 b5 b6 b7 b8 = some true := by
  unfold f6
  obtain ⟨r, e, h⟩ := f31_ex a0 a1 a2 a3 a4 a5 a6 a7 a8 1048576 s2 s3 s4 s5 s8 (by omega) (by omega)
  rw [e]
  simp only [obind_eq, bsel_if, decide_eq_true_eq]
  split
  · rfl
  have k := h (by omega)
  obtain ⟨r', e', h'⟩ := f31_ex b0 b1 b2 b3 b4 b5 b6 b7 b8 r t2 t3 t4 t5 t8 (by omega) (by omega)
  rw [e']
  simp only [obind_eq]
  split
  · rfl
  have k' := h' (by omega)
  have ea := f33_eq a0 a1 a2 a3 a4 a5 a6 a7 a8 k.1.1 k.1.2.1 k.1.2.2.1 k.1.2.2.2.1 k.1.2.2.2.2
  have eb := f33_eq b0 b1 b2 b3 b4 b5 b6 b7 b8 k'.1.1 k'.1.2.1 k'.1.2.2.1 k'.1.2.2.2.1 k'.1.2.2.2.2
  rw [ea, eb]
  simp only [obind9_eq]
  obtain ⟨q, q1, q2⟩ := same_eq (a0 := a0) (a1 := a1) (a6 := a6) (a7 := a7) (b0 := b0) (b1 := b1) (b6 := b6) (b7 := b7) ⟨k.1.1, k.1.2.1, k.1.2.2.1, k.1.2.2.2.1, k.1.2.2.2.2, g2, g3, g4, g5⟩ ⟨k'.1.1, k'.1.2.1, k'.1.2.2.1, k'.1.2.2.2.1, k'.1.2.2.2.2, k2, k3, k4, k5⟩
  rw [q1, q2]
  simp only [obind_eq]
  rw [f21_refl a0 a1 a2 a3 a4 a5 a6 a7 a8 k.1.1 k.1.2.1 k.1.2.2.1 k.1.2.2.2.1 k.1.2.2.2.2, f21_refl b0 b1 b2 b3 b4 b5 b6 b7 b8 k'.1.1 k'.1.2.1 k'.1.2.2.1 k'.1.2.2.2.1 k'.1.2.2.2.2]
  simp
end Go.Proofs.Ytmgjiomflefedaa
