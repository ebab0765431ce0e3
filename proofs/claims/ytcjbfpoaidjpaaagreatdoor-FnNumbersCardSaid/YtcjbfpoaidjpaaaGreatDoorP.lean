/- The plain law of FnNumbers. -/
import Derived.Test.YtcjbfpoaidjpaaaGreatDoorG2
namespace Go.Proofs.YtcjbfpoaidjpaaaGreatDoor
set_option linter.unusedSimpArgs false
set_option linter.unusedVariables false
open Go Go.AM
theorem s_l01Bits_none : s_l01Bits none = some 2143289344 := by
  unfold s_l01Bits; simp
theorem s_l01Bits_some {b : Nat} (h : FOk .f32 (some b)) : s_l01Bits (some b) = some (b : Int) := by
  unfold s_l01Bits
  rw [feq_refl h]
  have := h.some.1
  have hb : b < 4294967296 := this
  simp only [Bool.not_true, bsel_false, obind_eq, olet_eq]
  rw [wrap_i64 (by omega) (by omega)]
theorem s_l01Same_eq {c d : F} (hc : FOk .f32 c) (hd : FOk .f32 d) : s_l01Same c d = some (decide (c = d)) := by
  unfold s_l01Same
  have hne : ∀ b, FOk .f32 (some b) → b ≠ 2143289344 := by
    intro b hb e
    subst e
    have := hb.some.2
    revert this; decide
  cases c with
  | none =>
    cases d with
    | none => simp [s_l01Bits_none]
    | some b => have := hne b hd; simp [s_l01Bits_none, s_l01Bits_some hd]; omega
  | some a =>
    cases d with
    | none => have := hne a hc; simp [s_l01Bits_none, s_l01Bits_some hc]; omega
    | some b => simp [s_l01Bits_some hc, s_l01Bits_some hd]; omega
def FOks (l : List F) : Prop := ∀ c ∈ l, FOk .f32 c
theorem FOks.at {l : List F} (h : FOks l) {i : Nat} {c : F} (e : l[i]? = some c) : FOk .f32 c := h c (List.mem_of_getElem? e)
theorem i_IsFinite_eq {c : F} (h : FOk .f32 c) : i_IsFinite c = some (fin32 c) := by
  unfold i_IsFinite i_isFinite64 x_math_IsNaN x_math_IsInf x_math_Abs x_math_IsInf_k1
  cases c with
  | none => simp [fwiden, fin32]
  | some b =>
    have hw := feq_refl (k := .f64) (b := FloatKind.f64.encode (FloatKind.f32.decode b)) (fwiden_ok h)
    have hw' : feq .f64 (fwiden (some b)) (fwiden (some b)) = true := hw
    have hm := fabs_max h (by simp)
    simp only [olet_eq, obind_eq, hw', Bool.not_true, bsel_false, decide_true, bsel_true, hm, Bool.not_not]
abbrev q1 : List F := [some 1073741824, some 1065353216, some 1065353216, some 1073741824]
theorem FOks.getD {l : List F} (h : FOks l) (n : Nat) : FOk .f32 (l.getD n none) := by
  simp only [List.getD]
  cases e : l[n]? with
  | none => exact fok_none _
  | some c => exact h.at e
theorem FOks.set {l : List F} (h : FOks l) {n : Nat} {x : F} (hx : FOk .f32 x) : FOks (l.set n x) := by
  intro c hc
  rcases List.mem_or_eq_of_mem_set hc with h1 | h1
  · exact h c h1
  · exact h1 ▸ hx
theorem wsucc {i : Nat} (h : i ≤ 1000000000) : IntKind.i64.wrap ((i : Int) + 1) = ((i + 1 : Nat) : Int) := by
  rw [wrap_i64 (by omega) (by omega)]; omega
theorem getD_of_lt {α : Type} {l : List α} {n : Nat} (d : α) (h : n < l.length) : l[n]? = some (l.getD n d) := by simp [List.getD, h]
abbrev gI (l : List Int) (i : Nat) : Int := l.getD i 0
structure SpIn (S : Nat) (a1 a2 : List Int) : Prop where
  S1 : 1 ≤ S
  S2 : S ≤ 32
  l1 : a1.length = S + 1
  l2 : a2.length ≤ 512
  z : gI a1 0 = 0
  e : gI a1 S = (a2.length : Int)
structure SpGood (S : Nat) (a1 a2 : List Int) : Prop where
  s : ∀ i, i < S → gI a1 i ≤ gI a1 (i + 1)
  c : ∀ k, k < a2.length → 0 ≤ gI a2 k ∧ gI a2 k ≤ (S : Int) - 1
  o : ∀ i, i < S → ∀ k : Nat, gI a1 i < (k : Int) → (k : Int) < gI a1 (i + 1) → gI a2 (k - 1) < gI a2 k
theorem SpGood.mono {S : Nat} {a1 a2 : List Int} (h : SpGood S a1 a2) : ∀ (d i : Nat), i + d ≤ S → gI a1 i ≤ gI a1 (i + d)
  | 0, i, _ => Int.le_refl _
  | d + 1, i, hd => Int.le_trans (h.mono d i (by omega)) (h.s (i + d) (by omega))
theorem SpGood.lo {S : Nat} {a1 a2 : List Int} (h : SpGood S a1 a2) (i0 : SpIn S a1 a2) {i : Nat} (hi : i ≤ S) : 0 ≤ gI a1 i ∧ gI a1 i ≤ (a2.length : Int) := by
  have h1 := h.mono i 0 (by omega)
  have h2 := h.mono (S - i) i (by omega)
  rw [Nat.zero_add, i0.z] at h1
  rw [show i + (S - i) = S by omega, i0.e] at h2
  exact ⟨h1, h2⟩
structure SpOk (S : Nat) (a1 a2 : List Int) (a3 : List F) : Prop where
  i : SpIn S a1 a2
  g : SpGood S a1 a2
  l : a3.length = a2.length
theorem SpOk.row {S : Nat} {a1 a2 : List Int} {a3 : List F} (h : SpOk S a1 a2 a3) {i : Nat} (hi : i < S) : 0 ≤ gI a1 i ∧ gI a1 i ≤ gI a1 (i + 1) ∧ gI a1 (i + 1) ≤ (a2.length : Int) :=
  ⟨(h.g.lo h.i (by omega)).1, h.g.s i hi, (h.g.lo h.i (i := i + 1) (by omega)).2⟩
def loK (a1 : List Int) (i : Nat) : Nat := (gI a1 i).toNat
def laK (a1 : List Int) (i : Nat) : Nat := (gI a1 (i + 1)).toNat - 1
structure Root (S : Nat) (a1 a2 : List Int) (a3 : List F) : Prop where
  ok : SpOk S a1 a2 a3
  low : ∀ i, i < S → gI a1 i ≤ gI a1 (i + 1) - 1 ∧ gI a2 (laK a1 i) = (i : Int)
theorem Root.at {S : Nat} {a1 a2 : List Int} {a3 : List F} (h : Root S a1 a2 a3) {i : Nat} (hi : i < S) : loK a1 i ≤ laK a1 i ∧ laK a1 i < a2.length ∧ ((laK a1 i : Nat) : Int) = gI a1 (i + 1) - 1 ∧ ((loK a1 i : Nat) : Int) = gI a1 i := by
  obtain ⟨r1, r2, r3⟩ := h.ok.row hi
  obtain ⟨q1, _⟩ := h.low i hi
  unfold loK laK
  omega
def vget (v : List F) (x : Int) : F := v.getD x.toNat none
def Names (n : Nat) (L : List Int) : Prop := ∀ x ∈ L, 0 ≤ x ∧ x < (n : Int)
theorem Names.at {n : Nat} {L : List Int} (h : Names n L) {j : Nat} (hj : j < L.length) : 0 ≤ L.getD j 0 ∧ L.getD j 0 < (n : Int) := by
  rw [List.getD_eq_getElem?_getD, List.getElem?_eq_getElem hj]
  exact h _ (List.getElem_mem hj)
theorem Names.set {n : Nat} {L : List Int} (h : Names n L) {j : Nat} {x : Int} (hx : 0 ≤ x ∧ x < (n : Int)) : Names n (L.set j x) := fun y hy => (List.mem_or_eq_of_mem_set hy).elim (fun k => h y k) (fun k => by rw [k]; exact hx)
theorem vget_mem {v : List F} {x : Int} (h0 : 0 ≤ x) (h1 : x < (v.length : Int)) : vget v x ∈ v := by
  unfold vget
  rw [List.getD_eq_getElem?_getD, List.getElem?_eq_getElem (by omega)]
  exact List.getElem_mem _
def wkey (c : F) : Nat := c.getD 0
def sqW (v : List F) (x : Int) : Nat := wkey (vget v x)
def SqOk (v : List F) : Prop := ∀ c ∈ v, ∃ b, c = some b ∧ b ≤ 2139095040
theorem SqOk.at {v : List F} (h : SqOk v) {x : Int} (h0 : 0 ≤ x) (h1 : x < (v.length : Int)) : vget v x = some (sqW v x) ∧ sqW v x ≤ 2139095040 := by
  obtain ⟨b, e, hb⟩ := h _ (vget_mem h0 h1)
  unfold sqW
  rw [e]; exact ⟨rfl, hb⟩
def mkS (l : List UInt8) : ByteArray := ⟨l.toArray⟩
def byt (s : ByteArray) : List UInt8 := s.data.toList
theorem byt_mk (l : List UInt8) : byt (mkS l) = l := by simp [byt, mkS]
theorem mk_byt (s : ByteArray) : mkS (byt s) = s := Go.Lib.mk_data s
theorem siz (s : ByteArray) : s.size = (byt s).length := Go.Lib.size_eq s
theorem subs_mk {s : ByteArray} {i j : Nat} (h : i ≤ j) (h2 : j ≤ (byt s).length) : subs? s (i : Int) (j : Int) = some (mkS (((byt s).drop i).take (j - i))) := by
  unfold subs?
  rw [if_pos ⟨by omega, by omega, by rw [siz]; omega⟩]
  exact congrArg some (Go.Lib.extract_eq s i j)
theorem eqs_iff {s t : ByteArray} : eqs s t = decide (byt s = byt t) := by
  unfold eqs byt
  rw [Bool.eq_iff_iff]; simp only [beq_iff_eq, decide_eq_true_eq]
def cutL (c : UInt8) : List UInt8 → List (List UInt8)
  | [] => [[]]
  | b :: l => if b = c then [] :: cutL c l else match cutL c l with
    | [] => [[b]]
    | h :: t => (b :: h) :: t
theorem cutL_none {c : UInt8} : ∀ {p : List UInt8}, c ∉ p → cutL c p = [p]
  | [], _ => rfl
  | b :: l, h => by
    have hb : b ≠ c := fun e => h (by simp [e])
    have hl : c ∉ l := fun e => h (by simp [e])
    unfold cutL
    rw [if_neg hb, cutL_none hl]
theorem cutL_hit {c : UInt8} {q : List UInt8} : ∀ {p : List UInt8}, c ∉ p → cutL c (p ++ c :: q) = p :: cutL c q
  | [], _ => by
    show cutL c (c :: q) = _
    conv => lhs; unfold cutL
    rw [if_pos rfl]
  | b :: l, h => by
    have hb : b ≠ c := fun e => h (by simp [e])
    have hl : c ∉ l := fun e => h (by simp [e])
    show cutL c (b :: (l ++ c :: q)) = _
    conv => lhs; unfold cutL
    rw [if_neg hb, cutL_hit hl]
theorem cutL_len {c : UInt8} : ∀ {l : List UInt8}, (cutL c l).length = l.count c + 1
  | [] => rfl
  | b :: l => by
    have ih := cutL_len (c := c) (l := l)
    unfold cutL
    by_cases hb : b = c
    · rw [if_pos hb, List.length_cons, ih, hb, List.count_cons_self]
    · rw [if_neg hb, List.count_cons_of_ne hb, ← ih]
      cases h : cutL c l with
      | nil => rw [h] at ih; simp at ih
      | cons x y => rfl
theorem idx_hit {c : UInt8} : ∀ {l : List UInt8}, c ∈ l → ∃ p q, l = p ++ c :: q ∧ c ∉ p ∧ Go.Lib.indexByte l c = (p.length : Int)
  | [], h => by simp at h
  | b :: l, h => by
    by_cases hb : b = c
    · exact ⟨[], l, by simp [hb], by simp, by unfold Go.Lib.indexByte; rw [if_pos (by simp [hb])]; rfl⟩
    · have hl : c ∈ l := by rcases List.mem_cons.1 h with e | e; exact absurd e.symm hb; exact e
      obtain ⟨p, q, e1, e2, e3⟩ := idx_hit hl
      refine ⟨b :: p, q, by simp [e1], by simp [e2, Ne.symm hb], ?_⟩
      unfold Go.Lib.indexByte
      rw [if_neg (by simp [hb]), e3, if_neg (by simp)]; simp
theorem wi64 {n : Int} (h0 : -9000000000000000000 ≤ n) (h1 : n ≤ 9000000000000000000) : IntKind.i64.wrap n = n := wrap_i64 (by omega) (by omega)
theorem cats_mk {a b : List UInt8} (h : a.length + b.length ≤ 1000000000) : cats? (mkS a) (mkS b) = some (mkS (a ++ b)) := by
  unfold cats?
  rw [if_pos (by rw [siz, siz, byt_mk, byt_mk]; omega)]
  refine congrArg some ?_
  rw [← mk_byt (mkS a ++ mkS b)]
  refine congrArg mkS ?_
  show (mkS a ++ mkS b).data.toList = _
  simp [mkS]
theorem drop_at {α : Type} {l : List α} {j : Nat} {x : α} (h : l[j]? = some x) : l.drop j = x :: l.drop (j + 1) := by
  have hj := lt_of_getElem? h
  rw [List.drop_eq_getElem_cons hj]
  rw [List.getElem?_eq_getElem hj] at h
  rw [Option.some.inj h]
theorem cm_size : (lit_be717853.size : Int) = 1 := rfl
theorem cm_sat : sat? lit_be717853 0 = some 44 := rfl
theorem x_index_cm (s : ByteArray) : x_strings_Index s lit_be717853 = some (Go.Lib.indexByte (byt s) 44) := by
  unfold x_strings_Index x_internal_stringslite_Index
  rw [cm_size, decide_eq_false (by omega), bsel_false, eqs_iff]
  by_cases h : byt lit_be717853 = byt s
  · rw [decide_eq_true h, bsel_true, ← h]; rfl
  · rw [decide_eq_false h, bsel_false, decide_eq_true rfl, bsel_true, cm_sat, obind_eq]; rfl
theorem split_loopC : ∀ (r : Nat) (D : List ByteArray) (s : ByteArray), (byt s).count 44 = r → D.length + r ≤ 2000000 → (byt s).length ≤ 2000000 →
    ∃ e, loopM (x_strings_genSplit_s2 lit_be717853 0 ((D.length + r : Nat) : Int)) (D ++ List.replicate (r + 1) lit_99ba06bc, s, (D.length : Int)) = some (.inl e) ∧ x_strings_genSplit_k2 e.1 e.2.1 e.2.2 = some (D ++ (cutL 44 (byt s)).map mkS)
  | 0, D, s, hc, hD, hs => by
    refine ⟨(D ++ List.replicate 1 lit_99ba06bc, s, (D.length : Int)), ?_, ?_⟩
    · refine loopM_out ?_
      show x_strings_genSplit_b2 _ _ ((D.length + 0 : Nat) : Int) _ _ (D.length : Int) = _
      unfold x_strings_genSplit_b2
      rw [decide_eq_false (by omega), bsel_false]
    · have hno : (44 : UInt8) ∉ byt s := List.count_eq_zero.1 hc
      show x_strings_genSplit_k2 (D ++ List.replicate 1 lit_99ba06bc) s (D.length : Int) = _
      unfold x_strings_genSplit_k2
      rw [setAt?_of (by omega) (by simp), obind_eq, cutL_none hno]
      simp only [olet_eq]
      rw [wi64 (by omega) (by omega)]
      have e : (D ++ List.replicate 1 lit_99ba06bc).set ((D.length : Nat) : Int).toNat s = D ++ [s] := by
        rw [show ((D.length : Nat) : Int).toNat = D.length from by omega]; simp
      rw [e]
      have e2 : sub? (D ++ [s]) 0 ((D.length : Int) + 1) = some (D ++ [s]) := by
        unfold sub?
        rw [if_pos ⟨by omega, by omega, by simp⟩]
        simp only [Int.toNat_zero, List.drop_zero]
        rw [List.take_of_length_le (by simp)]
      rw [e2]; simp [mk_byt, obind_eq]
  | r + 1, D, s, hc, hD, hs => by
    have hin : (44 : UInt8) ∈ byt s := List.count_pos_iff.1 (by omega)
    obtain ⟨p, q, e1, e2, e3⟩ := idx_hit hin
    have hl : (byt s).length = p.length + 1 + q.length := by rw [e1]; simp; omega
    have hcq : q.count 44 = r := by
      rw [e1, List.count_append, List.count_cons_self, List.count_eq_zero.2 e2] at hc; omega
    obtain ⟨e, h1, h2⟩ := split_loopC r (D ++ [mkS p]) (mkS q) (by rw [byt_mk]; exact hcq) (by simp; omega) (by rw [byt_mk]; omega)
    refine ⟨e, ?_, ?_⟩
    · have st : x_strings_genSplit_s2 lit_be717853 0 ((D.length + (r + 1) : Nat) : Int) (D ++ List.replicate (r + 1 + 1) lit_99ba06bc, s, (D.length : Int)) = some (.next ((D ++ [mkS p]) ++ List.replicate (r + 1) lit_99ba06bc, mkS q, (((D ++ [mkS p]).length : Nat) : Int))) := by
        show x_strings_genSplit_b2 _ _ ((D.length + (r + 1) : Nat) : Int) _ _ (D.length : Int) = _
        unfold x_strings_genSplit_b2
        rw [decide_eq_true (by omega), bsel_true, x_index_cm, obind_eq, e3, decide_eq_false (by omega), bsel_false]
        simp only [olet_eq]
        rw [wi64 (by omega) (by omega), show ((p.length : Nat) : Int) + 0 = ((p.length : Nat) : Int) from by omega]
        have k1 : subs? s 0 ((p.length : Nat) : Int) = some (mkS p) := by
          have := subs_mk (s := s) (i := 0) (j := p.length) (by omega) (by omega)
          rw [show ((0 : Nat) : Int) = 0 from rfl] at this
          rw [this, List.drop_zero, e1]; simp
        rw [k1, obind_eq, setAt?_of (by omega) (by simp), obind_eq, cm_size, wi64 (by omega) (by omega)]
        have k2 : subs? s ((p.length : Int) + 1) (s.size : Int) = some (mkS q) := by
          have := subs_mk (s := s) (i := p.length + 1) (j := (byt s).length) (by omega) (by omega)
          rw [siz, show ((p.length : Int) + 1) = ((p.length + 1 : Nat) : Int) from by omega, this, e1]
          have d : (p ++ 44 :: q).drop (p.length + 1) = q := by simp [List.drop_append]
          rw [d, List.take_of_length_le (by simp; omega)]
        rw [k2, obind_eq, wi64 (by omega) (by omega)]
        have e : (D ++ List.replicate (r + 1 + 1) lit_99ba06bc).set ((D.length : Nat) : Int).toNat (mkS p) = (D ++ [mkS p]) ++ List.replicate (r + 1) lit_99ba06bc := by
          rw [show ((D.length : Nat) : Int).toNat = D.length from by omega, List.replicate_succ]; simp
        rw [e]
        have e4 : (((D ++ [mkS p]).length : Nat) : Int) = (D.length : Int) + 1 := by simp
        rw [e4]
      rw [loopM_next st]
      rw [show D.length + (r + 1) = (D ++ [mkS p]).length + r from by simp; omega]
      exact h1
    · rw [h2, byt_mk, e1, cutL_hit e2]; simp
theorem x_split_cm {s : ByteArray} (h : (byt s).length ≤ 1048576) : x_strings_Split s lit_be717853 = some ((cutL 44 (byt s)).map mkS) := by
  have hcn : (byt s).count 44 ≤ (byt s).length := List.count_le_length
  obtain ⟨e, h1, h2⟩ := split_loopC ((byt s).count 44) [] s rfl (by simp; omega) (by omega)
  have cnt : x_strings_Count s lit_be717853 = some (((byt s).count 44 : Nat) : Int) := by
    unfold x_strings_Count
    rw [cm_size, decide_eq_false (by omega), bsel_false, decide_eq_true rfl, bsel_true, cm_sat, obind_eq]; rfl
  have mn : imin (((byt s).count 44 : Nat) + 1) ((s.size : Int) + 1) = ((byt s).count 44 : Nat) + 1 := by
    unfold imin; rw [if_neg (by rw [siz]; omega)]
  unfold x_strings_Split x_strings_genSplit
  rw [decide_eq_false (by omega), bsel_false, show eqs lit_be717853 lit_99ba06bc = false from rfl, bsel_false, decide_eq_true (by omega), bsel_true, cnt, obind_eq]
  simp only [olet_eq]
  rw [wi64 (by omega) (by omega)]
  unfold x_strings_genSplit_k1
  simp only [olet_eq]
  rw [wi64 (n := (s.size : Int) + 1) (by omega) (by rw [siz]; omega), mn, show mkok 16 (((byt s).count 44 : Nat) + 1) = true from by simp only [mkok, Bool.and_eq_true, decide_eq_true_eq]; omega, need_true, wi64 (by omega) (by omega)]
  have g : ((((byt s).count 44 : Nat) : Int) + 1 - 1) = ((([] : List ByteArray).length + (byt s).count 44 : Nat) : Int) := by simp
  rw [g, show ((((byt s).count 44 : Nat) : Int) + 1).toNat = (byt s).count 44 + 1 from by omega]
  have h1 : loopM (x_strings_genSplit_s2 lit_be717853 0 ((([] : List ByteArray).length + (byt s).count 44 : Nat) : Int)) (List.replicate ((byt s).count 44 + 1) lit_99ba06bc, s, 0) = some (.inl e) := h1
  rw [h1]
  simp only [obind_eq, osum]
  rw [h2]; rfl
theorem part_len {c : UInt8} : ∀ {s p : List UInt8}, p ∈ cutL c s → p.length ≤ s.length
  | [], p, h => by simp [cutL] at h; subst h; simp
  | b :: l, p, h => by
    unfold cutL at h
    split at h
    · rcases List.mem_cons.1 h with e | e
      · subst e; simp
      · have := part_len e; simp; omega
    · cases hc : cutL c l with
      | nil => rw [hc] at h; simp at h; subst h; simp
      | cons x y =>
        rw [hc] at h
        rcases List.mem_cons.1 h with e | e
        · subst e
          have := part_len (c := c) (s := l) (p := x) (by rw [hc]; simp)
          simp; omega
        · have := part_len (c := c) (s := l) (p := p) (by rw [hc]; simp [e])
          simp; omega
theorem none_byt : byt lit_5ac87db9 = [110, 111, 110, 101] := rfl
def hexD (d : Nat) : Int := if d < 10 then 48 + (d : Int) else 87 + (d : Int)
theorem hex_sat2 {d : Nat} (h : d < 16) : sat? lit_b1892504 (d : Int) = some (hexD d) := by
  match d, h with
  | 0, _ => rfl
  | 1, _ => rfl
  | 2, _ => rfl
  | 3, _ => rfl
  | 4, _ => rfl
  | 5, _ => rfl
  | 6, _ => rfl
  | 7, _ => rfl
  | 8, _ => rfl
  | 9, _ => rfl
  | 10, _ => rfl
  | 11, _ => rfl
  | 12, _ => rfl
  | 13, _ => rfl
  | 14, _ => rfl
  | 15, _ => rfl
  | d + 16, h => exact absurd h (by omega)
theorem and15 {x : Nat} (h : x < 18446744073709551616) : (BitVec.ofInt 64 (x : Int) &&& BitVec.ofInt 64 15).toNat = x % 16 := by
  have e1 : (BitVec.ofInt 64 (x : Int)).toNat = x := by
    rw [BitVec.ofInt_natCast, BitVec.toNat_ofNat]
    exact Nat.mod_eq_of_lt h
  have e2 : (BitVec.ofInt 64 15).toNat = 15 := by decide
  rw [BitVec.toNat_and, e1, e2]
  exact Nat.and_two_pow_sub_one_eq_mod x 4
theorem u64_wrap {n : Int} (h0 : 0 ≤ n) (h1 : n < 18446744073709551616) : IntKind.u64.wrap n = n := by
  simp only [IntKind.wrap, IntKind.bits, IntKind.signed]
  simp
  omega
theorem iand_u {x : Nat} (h : x < 9000000000000000000) : iand .u64 (x : Int) 15 = ((x % 16 : Nat) : Int) := by
  unfold iand
  show IntKind.u64.wrap (((BitVec.ofInt 64 (x : Int) &&& BitVec.ofInt 64 15).toNat : Nat) : Int) = _
  rw [and15 (by omega), u64_wrap (by omega) (by omega)]
theorem ishr_nat {k : IntKind} {x j : Nat} (h : j ≤ k.bits) : ishr k (x : Int) (j : Int) = ((x / 2 ^ j : Nat) : Int) := by
  unfold ishr
  rw [show ((j : Nat) : Int).toNat = j from by omega, Nat.min_eq_left h, Int.fdiv_eq_ediv_of_nonneg _ (by exact Int.le_of_lt (Int.pow_pos (by decide)))]
  push_cast
  rfl
def hxR : Nat → Nat → List Int
  | 0, n => [hexD (n % 16)]
  | k + 1, n => hexD (n / 16 ^ (k + 1) % 16) :: hxR k n
theorem hxR_snoc : ∀ (k n : Nat), hxR (k + 1) n = hxR k (n / 16) ++ [hexD (n % 16)]
  | 0, n => by simp [hxR]
  | k + 1, n => by
    have ih := hxR_snoc k n
    show hexD (n / 16 ^ (k + 2) % 16) :: hxR (k + 1) n = (hexD (n / 16 / 16 ^ (k + 1) % 16) :: hxR k (n / 16)) ++ [hexD (n % 16)]
    rw [ih, Nat.div_div_eq_div_mul, show 16 * 16 ^ (k + 1) = 16 ^ (k + 2) from by rw [Nat.pow_succ 16 (k + 1), Nat.mul_comm]]
    rfl
theorem hxR_len : ∀ (k n : Nat), (hxR k n).length = k + 1
  | 0, n => rfl
  | k + 1, n => by simp [hxR, hxR_len k n]
def hxs (n : Nat) : List Int := if n < 16 then [hexD n] else hxs (n / 16) ++ [hexD (n % 16)]
theorem set_drop {α : Type} {L : List α} {j : Nat} {d : α} (h : j < L.length) : (L.set j d).drop j = d :: L.drop (j + 1) := by
  rw [List.drop_eq_getElem_cons (by simpa using h), List.drop_set_of_lt (by omega)]
  simp
theorem fmt_loop : ∀ (k v i : Nat) (L : List Int), v < 16 ^ (k + 1) → v < 9000000000000000000 → k + 1 ≤ i → i ≤ 65 → L.length = 65 →
    ∃ e, loopM (x_internal_strconv_formatBits_s2 4 16 15) (L, (v : Int), (i : Int)) = some (.inl e) ∧ x_internal_strconv_formatBits_k2 false false e.1 e.2.1 e.2.2 = some (strOfNums (hxs v ++ L.drop i), []) := by
  intro k
  induction k with
  | zero =>
    intro v i L hv hv9 hki hi hL
    have hv16 : v < 16 := by simpa using hv
    refine ⟨(L, (v : Int), (i : Int)), loopM_out ?_, ?_⟩
    · show x_internal_strconv_formatBits_b2 4 16 15 L (v : Int) (i : Int) = _
      unfold x_internal_strconv_formatBits_b2
      rw [decide_eq_false (by omega), bsel_false]
    · show x_internal_strconv_formatBits_k2 false false L (v : Int) (i : Int) = _
      unfold x_internal_strconv_formatBits_k2 x_internal_strconv_formatBits_k4 x_internal_strconv_formatBits_k5
      simp only [olet_eq]
      rw [wi64 (by omega) (by omega), hex_sat2 hv16, obind_eq, setAt?_of (by omega) (by omega), obind_eq, bsel_false, bsel_false, show (decide (0 ≤ (i : Int) - 1) && decide ((i : Int) - 1 < ((65 : Nat) : Int))) = true from by simp; omega, need_true]
      rw [show ((i : Int) - 1).toNat = i - 1 from by omega, set_drop (by omega), show i - 1 + 1 = i from by omega]
      unfold hxs
      rw [if_pos hv16]; rfl
  | succ k ih =>
    intro v i L hv hv9 hki hi hL
    by_cases hv16 : v < 16
    · refine ⟨(L, (v : Int), (i : Int)), loopM_out ?_, ?_⟩
      · show x_internal_strconv_formatBits_b2 4 16 15 L (v : Int) (i : Int) = _
        unfold x_internal_strconv_formatBits_b2
        rw [decide_eq_false (by omega), bsel_false]
      · show x_internal_strconv_formatBits_k2 false false L (v : Int) (i : Int) = _
        unfold x_internal_strconv_formatBits_k2 x_internal_strconv_formatBits_k4 x_internal_strconv_formatBits_k5
        simp only [olet_eq]
        rw [wi64 (by omega) (by omega), hex_sat2 hv16, obind_eq, setAt?_of (by omega) (by omega), obind_eq, bsel_false, bsel_false, show (decide (0 ≤ (i : Int) - 1) && decide ((i : Int) - 1 < ((65 : Nat) : Int))) = true from by simp; omega, need_true]
        rw [show ((i : Int) - 1).toNat = i - 1 from by omega, set_drop (by omega), show i - 1 + 1 = i from by omega]
        unfold hxs
        rw [if_pos hv16]; rfl
    · obtain ⟨e, h1, h2⟩ := ih (v / 16) (i - 1) (L.set (i - 1) (hexD (v % 16))) (by rw [Nat.pow_succ] at hv; omega) (by omega) (by omega) (by omega) (by simpa using hL)
      have st : x_internal_strconv_formatBits_s2 4 16 15 (L, (v : Int), (i : Int)) = some (.next (L.set (i - 1) (hexD (v % 16)), ((v / 16 : Nat) : Int), ((i - 1 : Nat) : Int))) := by
        show x_internal_strconv_formatBits_b2 4 16 15 L (v : Int) (i : Int) = _
        unfold x_internal_strconv_formatBits_b2
        have hs : ishr .u64 (v : Int) 4 = ((v / 16 : Nat) : Int) := ishr_nat (k := .u64) (j := 4) (by decide)
        rw [decide_eq_true (by omega), bsel_true]
        simp only [olet_eq]
        rw [wi64 (by omega) (by omega), iand_u (by omega), hex_sat2 (Nat.mod_lt _ (by decide)), obind_eq, setAt?_of (by omega) (by omega), obind_eq, hs, show decide ((0 : Int) ≤ 4) = true from rfl, need_true]
        rw [show ((i : Int) - 1).toNat = i - 1 from by omega, show ((i : Int) - 1) = ((i - 1 : Nat) : Int) from by omega]
      refine ⟨e, by rw [loopM_next st]; exact h1, ?_⟩
      rw [h2, set_drop (by omega), show i - 1 + 1 = i from by omega]
      conv => rhs; unfold hxs
      rw [if_neg hv16]; simp
theorem pow2_16 : x_internal_strconv_isPowerOfTwo 16 = some true := by kernel_rfl
theorem tz_16 : x_math_bits_TrailingZeros 16 = some 4 := by kernel_rfl
theorem fmt16_eq {n : Nat} (hn : n < 4294967296) : x_strconv_FormatInt_16 (n : Int) 16 = some (strOfNums (hxs n)) := by
  obtain ⟨e, h1, h2⟩ := fmt_loop 7 n 65 (List.replicate 65 (0 : Int)) (by have : (16 : Nat) ^ (7 + 1) = 4294967296 := by decide
                                                                          omega) (by omega) (by omega) (by omega) List.length_replicate
  have hd : (List.replicate 65 (0 : Int)).drop 65 = [] := rfl
  rw [hd, List.append_nil] at h2
  have h1 : loopM (x_internal_strconv_formatBits_s2 4 16 15) (List.replicate 65 (0 : Int), (n : Int), 65) = some (.inl e) := h1
  have k1 : x_internal_strconv_formatBits_k1 16 false false (n : Int) = some (strOfNums (hxs n), []) := by
    unfold x_internal_strconv_formatBits_k1
    rw [pow2_16, obind_eq, bsel_true]
    simp only [olet_eq]
    rw [u64_wrap (n := 16) (by omega) (by omega), tz_16, obind_eq, u64_wrap (n := 4) (by omega) (by omega), u64_wrap (n := 16 - 1) (by omega) (by omega), show (16 : Int) - 1 = 15 from rfl, h1]
    exact h2
  unfold x_strconv_FormatInt_16 x_internal_strconv_FormatInt x_internal_strconv_formatBits
  rw [show decide ((16 : Int) = 10) = false from rfl, bsel_false]
  simp only [olet_eq]
  rw [u64_wrap (n := (n : Int)) (by omega) (by omega), show decide ((16 : Int) < 2) = false from rfl, bsel_false, bsel_false, show decide ((36 : Int) < 16) = false from rfl, bsel_false, decide_eq_false (by omega), bsel_false, k1]; rfl
theorem hxR_zero : ∀ k : Nat, hxR k 0 = List.replicate (k + 1) 48
  | 0 => rfl
  | k + 1 => by
    show hexD (0 / 16 ^ (k + 1) % 16) :: hxR k 0 = _
    rw [hxR_zero k, Nat.zero_div]; rfl
theorem hxs_len : ∀ (k n : Nat), n < 16 ^ (k + 1) → 1 ≤ (hxs n).length ∧ (hxs n).length ≤ k + 1
  | 0, n, h => by
    unfold hxs
    rw [if_pos (by simpa using h)]; simp
  | k + 1, n, h => by
    unfold hxs
    by_cases hs : n < 16
    · rw [if_pos hs]; simp
    · rw [if_neg hs]
      have := hxs_len k (n / 16) (by rw [Nat.pow_succ] at h; omega)
      simp; omega
theorem pad_eq : ∀ (k n : Nat), n < 16 ^ (k + 1) → List.replicate (k + 1 - (hxs n).length) 48 ++ hxs n = hxR k n
  | 0, n, h => by
    have h16 : n < 16 := by simpa using h
    unfold hxs
    rw [if_pos h16]
    simp [hxR, Nat.mod_eq_of_lt h16]
  | k + 1, n, h => by
    by_cases hs : n < 16
    · rw [hxR_snoc, show n / 16 = 0 from by omega, hxR_zero, Nat.mod_eq_of_lt hs]
      unfold hxs
      rw [if_pos hs]; simp
    · have ih := pad_eq k (n / 16) (by rw [Nat.pow_succ] at h; omega)
      rw [hxR_snoc, ← ih]
      have e : hxs n = hxs (n / 16) ++ [hexD (n % 16)] := by
        conv => lhs; unfold hxs
        rw [if_neg hs]
      rw [e]
      simp
def bitsN (x : F) : Nat := match x with
  | none => 2143289344
  | some b => b
def hexB (x : F) : List UInt8 := (hxR 7 (bitsN x)).map fun n => UInt8.ofNat n.toNat
theorem hexB_len (x : F) : (hexB x).length = 8 := by unfold hexB; rw [List.length_map, hxR_len]
theorem bits_eq {x : F} (h : FOk .f32 x) : s_l01Bits x = some ((bitsN x : Nat) : Int) ∧ i_BitsOf x = some ((bitsN x : Nat) : Int) ∧ bitsN x < 4294967296 := by
  have e : i_BitsOf x = s_l01Bits x := rfl
  rw [e]
  cases x with
  | none => exact ⟨rfl, rfl, by decide⟩
  | some b =>
    obtain ⟨b', hb, hw, hnan⟩ := h
    subst hb
    have hlt : b' < 4294967296 := hw
    have hf : feq .f32 (some b') (some b') = true := feq_refl ⟨b', rfl, hw, hnan⟩
    have k : s_l01Bits (some b') = some (b' : Int) := by
      unfold s_l01Bits
      rw [hf, Bool.not_true, bsel_false, obind_eq]
      simp only [olet_eq]
      rw [wi64 (by omega) (by omega)]
    exact ⟨k, k, hlt⟩
theorem rep48 : ∀ k : Nat, Go.Lib.repeatL [48] k = List.replicate k 48
  | 0 => rfl
  | k + 1 => by
    show [48] ++ Go.Lib.repeatL [48] k = _
    rw [rep48 k]; rfl
theorem i_hex_eq {x : F} (h : FOk .f32 x) : i_digitsOf x = some (mkS (hexB x)) := by
  obtain ⟨_, h2, h3⟩ := bits_eq h
  have h8 : bitsN x < 16 ^ (7 + 1) := by have : (16 : Nat) ^ (7 + 1) = 4294967296 := by decide
                                         omega
  obtain ⟨l1, l2⟩ := hxs_len 7 (bitsN x) h8
  have hsz : ((strOfNums (hxs (bitsN x))).size : Int) = ((hxs (bitsN x)).length : Int) := by rw [strOfNums_size]
  unfold i_digitsOf
  rw [h2, obind_eq, fmt16_eq h3, obind_eq]
  simp only [olet_eq]
  rw [hsz, wi64 (by omega) (by omega)]
  have hr : x_strings_Repeat lit_53dfb3bc (8 - ((hxs (bitsN x)).length : Int)) = some (mkS (List.replicate (8 - (hxs (bitsN x)).length) 48)) := by
    unfold x_strings_Repeat
    rw [decide_eq_true (by omega), need_true, decide_eq_true (by omega), need_true, show lit_53dfb3bc.size = 1 from rfl, decide_eq_true (by omega), need_true, show (8 - ((hxs (bitsN x)).length : Int)).toNat = 8 - (hxs (bitsN x)).length from by omega, show lit_53dfb3bc.data.toList = [48] from rfl, rep48]; rfl
  rw [hr, obind_eq, show strOfNums (hxs (bitsN x)) = mkS ((hxs (bitsN x)).map fun n => UInt8.ofNat n.toNat) from rfl, cats_mk (by simp; omega), obind_eq]
  unfold hexB
  rw [← pad_eq 7 (bitsN x) h8, List.map_append, List.map_replicate]; rfl
def txtF (l : List F) : List UInt8 := if l = [] then [110, 111, 110, 101] else Go.Lib.join (l.map hexB) [44]
theorem tailF_len : ∀ (l : List F), (Go.Lib.joinTail [44] (l.map hexB)).length ≤ 9 * l.length
  | [] => by simp [Go.Lib.joinTail]
  | x :: l => by
    have ih := tailF_len l
    have hx := hexB_len x
    simp only [Go.Lib.joinTail, List.map_cons, List.flatten_cons, List.length_append, List.length_cons, List.length_nil] at ih ⊢
    omega
theorem listF_loop {l : List F} (hl : l.length ≤ 1048576) (hb : FOks l) : ∀ (k j : Nat) (L : List ByteArray), j + k = l.length → L.length ≤ j → loopM (i_numbersText_s1 l) (L, (j : Int)) = some (.inl (L ++ (l.drop j).map fun x => mkS (hexB x)))
  | 0, j, L, hj, hL => by
    have hd : l.drop j = [] := List.drop_eq_nil_of_le (by omega)
    rw [hd, loopM_out (e := L)]
    · simp
    · show i_numbersText_b1 l L (j : Int) = _
      unfold i_numbersText_b1
      rw [decide_eq_false (by omega), bsel_false]
  | k + 1, j, L, hj, hL => by
    obtain ⟨x, hx⟩ : ∃ x, l[j]? = some x := ⟨_, List.getElem?_eq_getElem (by omega)⟩
    have e : i_numbersText_s1 l (L, (j : Int)) = some (.next (L ++ [mkS (hexB x)], ((j + 1 : Nat) : Int))) := by
      show i_numbersText_b1 l L (j : Int) = _
      unfold i_numbersText_b1
      rw [decide_eq_true (by omega), bsel_true, at?_of (by omega) (by rw [show (j : Int).toNat = j from by omega]; exact hx), obind_eq, i_hex_eq (hb x (List.mem_of_getElem? hx)), obind_eq, show apok 16 L.length 1 = true from by simp only [apok, Bool.and_eq_true, decide_eq_true_eq]; omega, need_true]
      simp only [olet_eq]
      rw [wi64 (by omega) (by omega)]; rfl
    rw [loopM_next e, listF_loop hl hb k (j + 1) _ (by omega) (by simp; omega), drop_at hx]
    simp
theorem i_ntext_eq {l : List F} (hl : l.length ≤ 1048576) (hb : FOks l) : i_numbersText l = some (mkS (txtF l)) := by
  have e : loopM (i_numbersText_s1 l) ([], 0) = some (.inl (l.map fun x => mkS (hexB x))) := by
    have := listF_loop hl hb l.length 0 [] (by omega) (by simp)
    simpa using this
  unfold i_numbersText
  rw [e]
  show i_numbersText_k1 (l.map fun x => mkS (hexB x)) = _
  unfold i_numbersText_k1 i_joined
  cases l with
  | nil => rfl
  | cons x r =>
    have hil := hexB_len x
    have htl := tailF_len r
    simp only [List.length_cons] at hl
    have hm : ((x :: r).map fun x => mkS (hexB x)).map (fun s => s.data.toList) = (x :: r).map hexB := by
      rw [List.map_map]
      exact List.map_congr_left fun y _ => byt_mk _
    have hj : Go.Lib.join ((x :: r).map hexB) [44] = hexB x ++ Go.Lib.joinTail [44] (r.map hexB) := by rw [List.map_cons, Go.Lib.join_cons]
    have js : x_strings_Join ((x :: r).map fun x => mkS (hexB x)) lit_be717853 = some (mkS (txtF (x :: r))) := by
      unfold x_strings_Join
      rw [hm, show lit_be717853.data.toList = [44] from rfl]
      rw [decide_eq_true (by simp), need_true, decide_eq_true (by simp; omega), need_true, decide_eq_true (by rw [hj]; simp; omega), need_true]
      unfold txtF
      rw [if_neg (by simp)]; rfl
    rw [decide_eq_false (by simp; omega), bsel_false, js, obind_eq, obind_eq]
theorem txtF_len (l : List F) : (txtF l).length ≤ 9 * l.length + 4 := by
  unfold txtF
  cases l with
  | nil => simp
  | cons x r =>
    have hil := hexB_len x
    have htl := tailF_len r
    rw [if_neg (by simp), List.map_cons, Go.Lib.join_cons]
    simp; omega
def hxb (d : Nat) : UInt8 := UInt8.ofNat (hexD d).toNat
theorem hxb_val : ∀ d, d < 16 → (hxb d).toNat = if d < 10 then 48 + d else 87 + d := by decide
theorem hxb_inj {a b : Nat} (ha : a < 16) (hb : b < 16) (h : hxb a = hxb b) : a = b := by
  have h1 := hxb_val a ha
  have h2 := hxb_val b hb
  rw [h] at h1
  rw [h1] at h2
  split at h2 <;> split at h2 <;> omega
def hU : Nat → Nat → List UInt8
  | 0, _ => []
  | k + 1, n => hxb (n / 16 ^ k % 16) :: hU k n
theorem hU_hxR : ∀ k n : Nat, ((hxR k n).map fun n => UInt8.ofNat n.toNat) = hU (k + 1) n
  | 0, n => by simp [hU, hxb, hxR]
  | k + 1, n => by
    show UInt8.ofNat (hexD (n / 16 ^ (k + 1) % 16)).toNat :: ((hxR k n).map fun n => UInt8.ofNat n.toNat) = _
    rw [hU_hxR k n]; rfl
theorem hU_inj : ∀ k n m : Nat, hU k n = hU k m → n % 16 ^ k = m % 16 ^ k
  | 0, n, m, _ => by simp [Nat.mod_one]
  | k + 1, n, m, h => by
    unfold hU at h
    obtain ⟨h1, h2⟩ := List.cons.inj h
    have e1 := hU_inj k n m h2
    have e2 := hxb_inj (Nat.mod_lt _ (by decide)) (Nat.mod_lt _ (by decide)) h1
    rw [Nat.mod_pow_succ, Nat.mod_pow_succ, e1, e2]
theorem hU_mem {b : UInt8} : ∀ {k n : Nat}, b ∈ hU k n → ∃ m, m < 16 ∧ b = hxb m
  | 0, n, h => by simp [hU] at h
  | k + 1, n, h => by
    unfold hU at h
    rcases List.mem_cons.1 h with e | e
    · exact ⟨_, Nat.mod_lt _ (by decide), e⟩
    · exact hU_mem e
theorem hexB_hU (x : F) : hexB x = hU 8 (bitsN x) := hU_hxR 7 (bitsN x)
theorem nan_word : (FloatKind.f32.format.read 2143289344).isNaN = true := by decide +kernel
theorem bitsN_lt {x : F} (h : FOk .f32 x) : bitsN x < 4294967296 := (bits_eq h).2.2
theorem bits_inj {x y : F} (hx : FOk .f32 x) (hy : FOk .f32 y) (h : bitsN x = bitsN y) : x = y := by
  cases x with
  | none =>
    cases y with
    | none => rfl
    | some b =>
      obtain ⟨b', hb, _, hn⟩ := hy
      subst hb
      have e : 2143289344 = b' := h
      rw [← e, nan_word] at hn; cases hn
  | some a =>
    cases y with
    | none =>
      obtain ⟨b', hb, _, hn⟩ := hx
      subst hb
      have e : b' = 2143289344 := h
      rw [e, nan_word] at hn; cases hn
    | some b => exact congrArg some h
theorem hexB_inj {x y : F} (hx : FOk .f32 x) (hy : FOk .f32 y) (h : hexB x = hexB y) : x = y := by
  rw [hexB_hU, hexB_hU] at h
  have h1 := hU_inj 8 _ _ h
  have l1 := bitsN_lt hx
  have l2 := bitsN_lt hy
  have e : (16 : Nat) ^ 8 = 4294967296 := by decide
  rw [e] at h1
  exact bits_inj hx hy (by omega)
theorem ffb_ok {n : Nat} (h : n < 4294967296) : FOk .f32 (ffb .f32 (n : Int)) := by
  have hw : n < 2 ^ FloatKind.f32.format.width := h
  unfold ffb
  rw [show ((n : Nat) : Int).toNat = n from by omega]
  cases hn : (FloatKind.f32.format.read n).isNaN with
  | true => rw [if_pos rfl]; exact ⟨n, hw, hn⟩
  | false => rw [if_neg (by decide)]; exact ⟨n, rfl, hw, hn⟩
theorem ffb_bits {x : F} (h : FOk .f32 x) : ffb .f32 ((bitsN x : Nat) : Int) = x := by
  have hl := bitsN_lt h
  cases x with
  | none =>
    unfold ffb
    rw [show ((bitsN none : Nat) : Int).toNat = 2143289344 from rfl, nan_word, if_pos rfl]
  | some b =>
    obtain ⟨b', hb, _, hn⟩ := h
    subst hb
    unfold ffb
    rw [show ((bitsN (some b') : Nat) : Int).toNat = b' from rfl, hn, if_neg (by decide)]
theorem u32_wrap {n : Int} (h0 : 0 ≤ n) (h1 : n < 4294967296) : IntKind.u32.wrap n = n := by
  simp only [IntKind.wrap, IntKind.bits, IntKind.signed]
  simp
  omega
theorem u8_wrp {n : Int} (h0 : 0 ≤ n) (h1 : n < 256) : IntKind.u8.wrap n = n := by
  simp only [IntKind.wrap, IntKind.bits, IntKind.signed]
  simp
  omega
theorem u8_some (n : Int) : ∃ d : Nat, d < 256 ∧ IntKind.u8.wrap n = (d : Int) := by
  refine ⟨(IntKind.u8.wrap n).toNat, ?_, ?_⟩
  · simp only [IntKind.wrap, IntKind.bits, IntKind.signed]; simp; omega
  · simp only [IntKind.wrap, IntKind.bits, IntKind.signed]; simp; omega
theorem fw_need {n : Int} (h0 : 0 ≤ n) (h1 : n < 4294967296) : (decide (0 ≤ n) && decide (n.toNat < 2 ^ FloatKind.f32.format.width)) = true := by
  have e : 2 ^ FloatKind.f32.format.width = 4294967296 := by decide
  rw [e, decide_eq_true h0, decide_eq_true (by omega)]; rfl
theorem s_from {n : Nat} (h : n < 4294967296) : s_l01From (n : Int) = some (ffb .f32 (n : Int)) := by
  unfold s_l01From
  simp only [olet_eq]
  rw [u32_wrap (by omega) (by omega), fw_need (by omega) (by omega), need_true]

open Classical in
noncomputable def rdF (s : List UInt8) : Option F := if h : ∃ x : F, FOk .f32 x ∧ s = hexB x then some h.choose else none
theorem rdF_some {s : List UInt8} {x : F} (hx : FOk .f32 x) (h : s = hexB x) : rdF s = some x := by
  have hh : ∃ x : F, FOk .f32 x ∧ s = hexB x := ⟨x, hx, h⟩
  unfold rdF
  rw [dif_pos hh]
  exact congrArg some (hexB_inj hh.choose_spec.1 hx (hh.choose_spec.2.symm.trans h))
theorem rdF_none {s : List UInt8} (h : ¬ ∃ x : F, FOk .f32 x ∧ s = hexB x) : rdF s = none := by unfold rdF; rw [dif_neg h]
theorem lower_hx : ∀ m, m < 6 → x_internal_strconv_lower ((97 + m : Nat) : Int) = some ((97 + m : Nat) : Int)
  | 0, _ => by kernel_rfl
  | 1, _ => by kernel_rfl
  | 2, _ => by kernel_rfl
  | 3, _ => by kernel_rfl
  | 4, _ => by kernel_rfl
  | 5, _ => by kernel_rfl
  | m + 6, h => absurd h (by omega)
theorem pu_k2 {v j d : Nat} (hv : v < 4294967296) (hj : j < 2000000) (hd : d < 256) :
    (x_internal_strconv_ParseUint_k2 v j d = some (.ret (.inl 0))) ∨ (x_internal_strconv_ParseUint_k2 v j d = some (.ret (.inr (.inl 4294967295)))) ∨ (16 * v + d < 4294967296 ∧ x_internal_strconv_ParseUint_k2 v j d = some (.next (((16 * v + d : Nat) : Int), ((j + 1 : Nat) : Int)))) := by
  unfold x_internal_strconv_ParseUint_k2
  by_cases h1 : 16 ≤ d
  · rw [decide_eq_true (by omega), bsel_true]; exact .inl rfl
  · rw [decide_eq_false (by omega), bsel_false, decide_eq_false (by omega), bsel_false]
    simp only [olet_eq]
    rw [u64_wrap (n := (v : Int) * 16) (by omega) (by omega), u64_wrap (n := (d : Int)) (by omega) (by omega), u64_wrap (by omega) (by omega), decide_eq_false (by omega), bsel_false]
    by_cases h2 : 4294967296 ≤ 16 * v + d
    · rw [decide_eq_true (by omega), bsel_true]; exact .inr (.inl rfl)
    · rw [decide_eq_false (by omega), bsel_false, wi64 (by omega) (by omega)]
      refine .inr (.inr ⟨by omega, ?_⟩)
      rw [show (v : Int) * 16 + (d : Int) = ((16 * v + d : Nat) : Int) from by omega]; rfl
theorem pu_k2_ok {v j d : Nat} (hv : 16 * v + d < 4294967296) (hj : j < 2000000) (hd : d < 16) : x_internal_strconv_ParseUint_k2 v j d = some (.next (((16 * v + d : Nat) : Int), ((j + 1 : Nat) : Int))) := by
  unfold x_internal_strconv_ParseUint_k2
  rw [decide_eq_false (by omega), bsel_false, decide_eq_false (by omega), bsel_false]
  simp only [olet_eq]
  rw [u64_wrap (n := (v : Int) * 16) (by omega) (by omega), u64_wrap (n := (d : Int)) (by omega) (by omega), u64_wrap (by omega) (by omega), decide_eq_false (by omega), bsel_false, decide_eq_false (by omega), bsel_false, wi64 (by omega) (by omega), show (v : Int) * 16 + (d : Int) = ((16 * v + d : Nat) : Int) from by omega]; rfl
theorem bytI_at {s : ByteArray} {j : Nat} {b : UInt8} (h : (byt s)[j]? = some b) : at? (bytI s) (j : Int) = some (b.toNat : Int) := by
  refine at?_of (by omega) ?_
  rw [show ((j : Nat) : Int).toNat = j from by omega]
  unfold bytI
  rw [List.getElem?_map, show s.data.toList[j]? = some b from h]; rfl
theorem bytI_len (s : ByteArray) : (bytI s).length = (byt s).length := by unfold bytI byt; rw [List.length_map]
theorem pu_step {s : ByteArray} {v j : Nat} {b : UInt8} (hb : (byt s)[j]? = some b) :
    ∃ d : Nat, d < 256 ∧ (x_internal_strconv_ParseUint_s3 s ((v : Int), (j : Int)) = x_internal_strconv_ParseUint_k2 v j d ∨ x_internal_strconv_ParseUint_s3 s ((v : Int), (j : Int)) = some (.ret (.inl 0))) := by
  have hlt : j < (byt s).length := (List.getElem?_eq_some_iff.1 hb).1
  have lw (e : Int) : x_internal_strconv_lower e = some (ior .u8 e 32) := rfl
  show ∃ d : Nat, d < 256 ∧ (x_internal_strconv_ParseUint_b3 s (v : Int) (j : Int) = x_internal_strconv_ParseUint_k2 v j d ∨ x_internal_strconv_ParseUint_b3 s (v : Int) (j : Int) = some (.ret (.inl 0)))
  unfold x_internal_strconv_ParseUint_b3
  rw [decide_eq_true (by rw [bytI_len]; omega), bsel_true, bytI_at hb]
  simp only [obind_eq, lw, olet_eq]
  obtain ⟨d1, hd1, e1⟩ := u8_some ((b.toNat : Int) - 48)
  obtain ⟨d2, hd2, e2⟩ := u8_some (IntKind.u8.wrap (ior .u8 (b.toNat : Int) 32 - 97) + 10)
  rw [e1, e2]
  cases decide ((b.toNat : Int) = 95) <;> cases decide (48 ≤ (b.toNat : Int)) <;> cases decide ((b.toNat : Int) ≤ 57) <;> cases decide (97 ≤ ior .u8 (b.toNat : Int) 32) <;> cases decide (ior .u8 (b.toNat : Int) 32 ≤ 122) <;> simp only [bsel_true, bsel_false] <;> first
    | exact ⟨0, by decide, .inr rfl⟩
    | exact ⟨0, by decide, .inr trivial⟩
    | exact ⟨d1, hd1, .inl rfl⟩
    | exact ⟨d2, hd2, .inl rfl⟩
theorem pu_out {s : ByteArray} {v : Int} {j : Nat} (h : j = (byt s).length) : loopM (x_internal_strconv_ParseUint_s3 s) (v, (j : Int)) = some (.inl v) := by
  rw [loopM_out (e := v)]
  show x_internal_strconv_ParseUint_b3 s v (j : Int) = _
  unfold x_internal_strconv_ParseUint_b3
  rw [decide_eq_false (by rw [bytI_len]; omega), bsel_false]
theorem pu_total {s : ByteArray} (hs : (byt s).length ≤ 1048576) : ∀ (k j v : Nat), j + k = (byt s).length → v < 4294967296 →
    (∃ n : Nat, n < 4294967296 ∧ loopM (x_internal_strconv_ParseUint_s3 s) ((v : Int), (j : Int)) = some (.inl (n : Int))) ∨ loopM (x_internal_strconv_ParseUint_s3 s) ((v : Int), (j : Int)) = some (.inr (.inl 0)) ∨ loopM (x_internal_strconv_ParseUint_s3 s) ((v : Int), (j : Int)) = some (.inr (.inr (.inl 4294967295)))
  | 0, j, v, hj, hv => .inl ⟨v, hv, pu_out (by omega)⟩
  | k + 1, j, v, hj, hv => by
    obtain ⟨b, hb⟩ : ∃ b, (byt s)[j]? = some b := ⟨_, List.getElem?_eq_getElem (by omega)⟩
    obtain ⟨d, hd, h | h⟩ := pu_step (v := v) hb
    · rcases pu_k2 hv (by omega : j < 2000000) hd with e | e | ⟨hl, e⟩
      · rw [e] at h; exact .inr (.inl (by rw [loopM_ret h]))
      · rw [e] at h; exact .inr (.inr (by rw [loopM_ret h]))
      · rw [e] at h
        rw [loopM_next h]
        exact pu_total hs k (j + 1) (16 * v + d) (by omega) hl
    · exact .inr (.inl (by rw [loopM_ret h]))
theorem pu_right {s : ByteArray} {n : Nat} (hn : n < 4294967296) (hs : (byt s).length = 8) : ∀ (k j v : Nat), j + k = 8 → n / 16 ^ k = v → (byt s).drop j = hU k n →
    loopM (x_internal_strconv_ParseUint_s3 s) ((v : Int), (j : Int)) = some (.inl (n : Int))
  | 0, j, v, hj, hv, hd => by
    rw [pu_out (by omega)]
    simp at hv; rw [hv]
  | k + 1, j, v, hj, hv, hd => by
    obtain ⟨b, hb⟩ : ∃ b, (byt s)[j]? = some b := ⟨_, List.getElem?_eq_getElem (by omega)⟩
    rw [drop_at hb] at hd
    obtain ⟨e1, e2⟩ := List.cons.inj (show b :: (byt s).drop (j + 1) = hxb (n / 16 ^ k % 16) :: hU k n from hd)
    have hm : n / 16 ^ k % 16 < 16 := Nat.mod_lt _ (by decide)
    have hle : n / 16 ^ k ≤ n := Nat.div_le_self _ _
    rw [Nat.pow_succ, ← Nat.div_div_eq_div_mul] at hv
    have e16 : n / 16 ^ k = 16 * v + n / 16 ^ k % 16 := by omega
    have hbv := hxb_val _ hm
    rw [← e1] at hbv
    generalize hmm : n / 16 ^ k % 16 = m at *
    have st : x_internal_strconv_ParseUint_s3 s ((v : Int), (j : Int)) = some (.next (((16 * v + m : Nat) : Int), ((j + 1 : Nat) : Int))) := by
      rw [← pu_k2_ok (v := v) (j := j) (d := m) (by omega) (by omega) hm]
      show x_internal_strconv_ParseUint_b3 s (v : Int) (j : Int) = _
      unfold x_internal_strconv_ParseUint_b3
      rw [decide_eq_true (by rw [bytI_len]; omega), bsel_true, bytI_at hb, obind_eq]
      by_cases h10 : m < 10
      · rw [if_pos h10] at hbv
        rw [decide_eq_false (by omega), bsel_false, decide_eq_true (by omega), bsel_true, decide_eq_true (by omega), bsel_true]
        simp only [olet_eq]
        rw [u8_wrp (by omega) (by omega), show (b.toNat : Int) - 48 = (m : Int) from by omega]
      · rw [if_neg h10] at hbv
        have hl := lower_hx (m - 10) (by omega)
        rw [show ((97 + (m - 10) : Nat) : Int) = (b.toNat : Int) from by omega] at hl
        rw [decide_eq_false (by omega), bsel_false, decide_eq_true (by omega), bsel_true, decide_eq_false (by omega), bsel_false, hl, obind_eq, decide_eq_true (by omega), bsel_true, obind_eq, decide_eq_true (by omega), bsel_true, obind_eq]
        simp only [olet_eq]
        rw [u8_wrp (n := (b.toNat : Int) - 97) (by omega) (by omega), u8_wrp (by omega) (by omega), show (b.toNat : Int) - 97 + 10 = (m : Int) from by omega]
    rw [loopM_next st]
    exact pu_right hn hs k (j + 1) _ (by omega) e16 e2
theorem pu_cases {s : ByteArray} (hs : (byt s).length ≤ 1048576) : (∃ n : Nat, n < 4294967296 ∧ x_strconv_ParseUint s = some (.inr (n : Int))) ∨ ∃ n : Nat, n < 4294967296 ∧ x_strconv_ParseUint s = some (.inl (n : Int)) := by
  have ts : x_strconv_toError_syntax lit_c0869d09 s 16 32 = some () := by
    unfold x_strconv_toError_syntax
    rw [decide_eq_true (by rw [siz]; omega), need_true]
  have tr : x_strconv_toError_range lit_c0869d09 s 16 32 = some () := by
    unfold x_strconv_toError_range
    rw [decide_eq_true (by rw [siz]; omega), need_true]
  unfold x_strconv_ParseUint x_internal_strconv_ParseUint
  cases eqs s lit_99ba06bc with
  | true => exact .inr ⟨0, by decide, by rw [bsel_true]; simp only [obind_eq, osum, ts]; rfl⟩
  | false =>
    rw [bsel_false]
    rcases pu_total hs (byt s).length 0 0 (by omega) (by decide) with ⟨n, hn, h⟩ | h | h
    · have h : loopM (x_internal_strconv_ParseUint_s3 s) (0, 0) = _ := h
      exact .inl ⟨n, hn, by rw [h]; rfl⟩
    · have h : loopM (x_internal_strconv_ParseUint_s3 s) (0, 0) = _ := h
      exact .inr ⟨0, by decide, by rw [h]; simp only [obind_eq, osum, ts]; rfl⟩
    · have h : loopM (x_internal_strconv_ParseUint_s3 s) (0, 0) = _ := h
      exact .inr ⟨4294967295, by decide, by rw [h]; simp only [obind_eq, osum, tr]; rfl⟩
theorem pu_word {p : List UInt8} {x : F} (hx : FOk .f32 x) (h : p = hexB x) : x_strconv_ParseUint (mkS p) = some (.inr ((bitsN x : Nat) : Int)) := by
  have hl := bitsN_lt hx
  have h8 : (byt (mkS p)).length = 8 := by rw [byt_mk, h, hexB_len]
  have hdiv : bitsN x / 16 ^ 8 = 0 := by
    have e : (16 : Nat) ^ 8 = 4294967296 := by decide
    rw [e]; omega
  have e : loopM (x_internal_strconv_ParseUint_s3 (mkS p)) (0, 0) = some (.inl ((bitsN x : Nat) : Int)) := pu_right hl h8 8 0 0 (by omega) hdiv (by rw [byt_mk, List.drop_zero, h, hexB_hU])
  have hne : eqs (mkS p) lit_99ba06bc = false := by
    rw [eqs_iff]
    refine decide_eq_false fun e => ?_
    rw [e] at h8
    exact absurd h8 (by decide)
  unfold x_strconv_ParseUint x_internal_strconv_ParseUint
  rw [hne, bsel_false, e]; rfl
theorem i_word_eq {p : List UInt8} (hp : p.length ≤ 1048576) : i_fromDigits (mkS p) = some (match rdF p with | none => (some 0, false) | some x => (x, true)) := by
  by_cases hh : ∃ x : F, FOk .f32 x ∧ p = hexB x
  · obtain ⟨x, hx, e⟩ := hh
    have hl := bitsN_lt hx
    rw [rdF_some hx e]
    unfold i_fromDigits
    rw [pu_word hx e]
    simp only [obind_eq, osum, olet_eq]
    rw [u32_wrap (by omega) (by omega), fw_need (by omega) (by omega), need_true, ffb_bits hx, i_hex_eq hx, obind_eq, eqs_iff, byt_mk, byt_mk, decide_eq_true e.symm, Bool.not_true, bsel_false]
  · rw [rdF_none hh]
    unfold i_fromDigits
    rcases pu_cases (s := mkS p) (by rw [byt_mk]; exact hp) with ⟨n, hn, e⟩ | ⟨n, hn, e⟩
    · rw [e]
      simp only [obind_eq, osum, olet_eq]
      have hne : ¬ hexB (ffb .f32 (n : Int)) = p := fun e => hh ⟨_, ffb_ok hn, e.symm⟩
      rw [u32_wrap (by omega) (by omega), fw_need (by omega) (by omega), need_true, i_hex_eq (ffb_ok hn), obind_eq, eqs_iff, byt_mk, byt_mk, decide_eq_false hne, Bool.not_false, bsel_true]
    · rw [e]
      simp only [obind_eq, osum, olet_eq]
      rw [u32_wrap (by omega) (by omega), fw_need (by omega) (by omega), need_true]
noncomputable def rdFL : List (List UInt8) → Option (List F)
  | [] => some []
  | p :: r => match rdF p with
    | none => none
    | some n => match rdFL r with
      | none => none
      | some l => some (n :: l)
noncomputable def rlF (s : List UInt8) : Bool × List F := if s = [110, 111, 110, 101] then (true, []) else match rdFL (cutL 44 s) with
  | none => (false, [])
  | some l => if (cutL 44 s).length ≤ 256 then (true, l) else (false, [])
theorem iF_loop {P : List (List UInt8)} (hP : P.length ≤ 2000000) (hl : ∀ p ∈ P, p.length ≤ 1048576) : ∀ (k j : Nat) (L : List F), j + k = P.length → L.length = j → j ≤ 256 →
    loopM (i_ReadNumbers_s1 (P.map mkS)) (L, (j : Int)) = some (match rdFL (P.drop j) with | none => .inr (false, []) | some l => if P.length ≤ 256 then .inl (L ++ l) else .inr (false, []))
  | 0, j, L, hj, hL, h64 => by
    have hd : P.drop j = [] := List.drop_eq_nil_of_le (by omega)
    rw [hd, loopM_out (e := L)]
    · unfold rdFL
      simp only
      rw [if_pos (by omega)]; simp
    · show i_ReadNumbers_b1 (P.map mkS) L (j : Int) = _
      unfold i_ReadNumbers_b1
      rw [List.length_map, decide_eq_false (by omega), bsel_false]
  | k + 1, j, L, hj, hL, h64 => by
    obtain ⟨p, hp⟩ : ∃ p, P[j]? = some p := ⟨_, List.getElem?_eq_getElem (by omega)⟩
    have ha : at? (P.map mkS) (j : Int) = some (mkS p) := at?_of (by omega) (by rw [show (j : Int).toNat = j from by omega, List.getElem?_map, hp]; rfl)
    have body : i_ReadNumbers_s1 (P.map mkS) (L, (j : Int)) = match rdF p with | none => some (.ret (false, [])) | some n => if j = 256 then some (.ret (false, [])) else some (.next (L ++ [n], ((j + 1 : Nat) : Int))) := by
      show i_ReadNumbers_b1 (P.map mkS) L (j : Int) = _
      unfold i_ReadNumbers_b1
      rw [List.length_map, decide_eq_true (by omega), bsel_true, ha, obind_eq, i_word_eq (hl p (List.mem_of_getElem? hp))]
      cases rdF p with
      | none => rfl
      | some n =>
        simp only [obind2_eq]
        rw [bsel_true]
        by_cases hj64 : j = 256
        · rw [decide_eq_true (by omega), bsel_true, if_pos hj64]
        · rw [decide_eq_false (by omega), bsel_false, if_neg hj64, show apok 4 L.length 1 = true from by simp only [apok, Bool.and_eq_true, decide_eq_true_eq]; omega, need_true]
          simp only [olet_eq]
          rw [wi64 (by omega) (by omega)]; rfl
    rw [drop_at hp]
    unfold rdFL
    cases hr : rdF p with
    | none => rw [hr] at body; rw [loopM_ret body]
    | some n =>
      rw [hr] at body
      simp only at body ⊢
      by_cases hj64 : j = 256
      · rw [if_pos hj64] at body
        rw [loopM_ret body]
        cases rdFL (P.drop (j + 1)) with
        | none => rfl
        | some l => simp only; rw [if_neg (by omega)]
      · rw [if_neg hj64] at body
        rw [loopM_next body, iF_loop hP hl k (j + 1) _ (by omega) (by simp; omega) (by omega)]
        cases rdFL (P.drop (j + 1)) with
        | none => rfl
        | some l => simp only; split <;> simp
theorem iF_eq {s : ByteArray} (hs : (byt s).length ≤ 1048576) : i_ReadNumbers s = some (rlF (byt s)) := by
  unfold i_ReadNumbers rlF
  rw [eqs_iff, none_byt]
  by_cases h : byt s = [110, 111, 110, 101]
  · rw [decide_eq_true h, bsel_true, if_pos h]
  · have hcn : (byt s).count 44 ≤ (byt s).length := List.count_le_length
    have e : loopM (i_ReadNumbers_s1 ((cutL 44 (byt s)).map mkS)) ([], 0) = _ := iF_loop (P := cutL 44 (byt s)) (by rw [cutL_len]; omega) (fun p hp => by have := part_len hp; omega) (cutL 44 (byt s)).length 0 [] (by omega) rfl (by omega)
    rw [decide_eq_false h, bsel_false, if_neg h, x_split_cm hs, obind_eq, e, List.drop_zero]
    cases rdFL (cutL 44 (byt s)) with
    | none => rfl
    | some l =>
      simp only
      by_cases h64 : (cutL 44 (byt s)).length ≤ 256
      · rw [if_pos h64, if_pos h64]; rfl
      · rw [if_neg h64, if_neg h64]; rfl
def Byt (l : List Int) : Prop := ∀ z ∈ l, 0 ≤ z ∧ z < 256
theorem byt_of {l : List Int} (h : ∀ z ∈ l, (Lit.int .u8 z).wf = true) : Byt l := by
  intro z hz
  have := h z hz
  have e0 : IntKind.u8.min = 0 := by decide
  have e1 : IntKind.u8.max = 255 := by decide
  simp only [Lit.wf, e0, e1, Bool.and_eq_true, decide_eq_true_eq] at this
  constructor <;> omega
theorem iand255 (x : Int) : ∃ d : Nat, d < 256 ∧ iand .u64 x 255 = (d : Int) := by
  have hle : (BitVec.ofInt 64 x &&& BitVec.ofInt 64 255).toNat ≤ 255 := by
    rw [BitVec.toNat_and, show (BitVec.ofInt 64 255).toNat = 255 from by decide]
    exact Nat.and_le_right
  refine ⟨_, Nat.lt_of_le_of_lt hle (by decide), ?_⟩
  show IntKind.u64.wrap (((BitVec.ofInt 64 x &&& BitVec.ofInt 64 255).toNat : Nat) : Int) = _
  exact u64_wrap (by omega) (by omega)
theorem src_k1 {a : List Int} {t v : Nat} {s : Int} (ht : t ≤ 1000000) (hv : v < 256) : ∃ (w : Nat) (s' : Int), w < 256 ∧ s_l00Src_next_0p0_C0_k1 a (t : Int) s (v : Int) = some ((w : Int), ((t + 1 : Nat) : Int), s') := by
  unfold s_l00Src_next_0p0_C0_k1
  simp only [olet_eq]
  rw [wsucc (by omega)]
  generalize IntKind.u64.wrap (IntKind.u64.wrap (IntKind.u64.wrap (s * 6364136223846793005) + IntKind.u64.wrap (v : Int)) + 1442695040888963407) = X
  by_cases h : t + 1 ≤ a.length
  · rw [decide_eq_true (by omega), bsel_true]; exact ⟨v, _, hv, rfl⟩
  · obtain ⟨d, hd, e⟩ := iand255 (ishr .u64 X 40)
    rw [decide_eq_false (by omega), bsel_false, show decide ((0 : Int) ≤ 40) = true from rfl, need_true, e, wi64 (by omega) (by omega)]
    exact ⟨d, _, hd, rfl⟩
theorem src_next {a : List Int} (ha : Byt a) {t : Nat} (ht : t ≤ 1000000) (s : Int) : ∃ (v : Nat) (s' : Int), v < 256 ∧ s_l00Src_next_0p0_C0 a (t : Int) s = some ((v : Int), ((t + 1 : Nat) : Int), s') := by
  by_cases h : t < a.length
  · obtain ⟨x, hx⟩ : ∃ x, a[t]? = some x := ⟨_, List.getElem?_eq_getElem h⟩
    obtain ⟨x0, x1⟩ := ha x (List.mem_of_getElem? hx)
    have e : s_l00Src_next_0p0_C0 a (t : Int) s = s_l00Src_next_0p0_C0_k1 a (t : Int) s ((x.toNat : Nat) : Int) := by
      unfold s_l00Src_next_0p0_C0
      rw [decide_eq_true (by omega), bsel_true, at?_of (by omega) (by rw [show (t : Int).toNat = t from by omega]; exact hx), obind_eq, olet_eq, wi64 (by omega) (by omega)]
      congr 1; omega
    rw [e]; exact src_k1 ht (by omega)
  · have e : s_l00Src_next_0p0_C0 a (t : Int) s = s_l00Src_next_0p0_C0_k1 a (t : Int) s ((0 : Nat) : Int) := by
      unfold s_l00Src_next_0p0_C0
      rw [decide_eq_false (by omega), bsel_false]
      congr 1
    rw [e]; exact src_k1 ht (by decide)
theorem src_pick {a : List Int} (ha : Byt a) {n t : Nat} (h1 : 1 ≤ n) (h2 : n ≤ 200) (ht : t ≤ 1000000) (s : Int) : ∃ (v t' : Nat) (s' : Int), v < n ∧ t' ≤ t + 1 ∧ s_l00Src_pick_0p0_C0 (n : Int) a (t : Int) s = some ((v : Int), (t' : Int), s') := by
  unfold s_l00Src_pick_0p0_C0
  by_cases h : n ≤ 1
  · rw [decide_eq_true (by omega), bsel_true]; exact ⟨0, t, s, by omega, by omega, rfl⟩
  · obtain ⟨v, s', hv, e⟩ := src_next ha ht s
    rw [decide_eq_false (by omega), bsel_false, e, obind3_eq, decide_eq_false (by omega), bsel_false]
    unfold s_l00Src_pick_0p0_C0_k1
    rw [decide_eq_false (by omega), Bool.not_false, need_true]
    simp only [olet_eq]
    refine ⟨v % n, t + 1, s', Nat.mod_lt _ (by omega), Nat.le_refl _, ?_⟩
    rw [Int.tmod_eq_emod_of_nonneg (by omega), Int.natCast_emod]
def Qd (x : F) : Prop := ∃ q : Int, q.natAbs ≤ 16 ∧ Dy .f32 2 q x
open Classical in
structure QM (A C : Nat) (L : List F) : Prop where
  m : Mat A C L
  q : ∀ x ∈ L, Qd x
theorem QM.at {A C : Nat} {L : List F} (h : QM A C L) {i k : Nat} (hi : i < A) (hk : k < C) : Qd (gm none L C i k) := by
  have := h.m.lt hi hk
  unfold gm
  exact h.q _ (List.mem_of_getElem? (getD_of_lt none this))
theorem loop_all {n : Nat} {step : Int → Option (LR Int Unit Bool)} (hn : n ≤ 1000000) (hs : ∀ i : Nat, i < n → step (i : Int) = some (.next ((i + 1 : Nat) : Int))) (he : step (n : Int) = some (.out ())) : loopM step 0 = some (.inl ()) :=
  (loop_run (step := step) (fun (i : Nat) (_ : Unit) => (i : Int)) (fun _ u => u) (fun _ => ()) (fun _ _ => True) (lo := 0) (n := n) (Nat.zero_le _) (s0 := ()) trivial (fun i _ _ hi _ => ⟨hs i hi, trivial⟩) (fun _ _ => he)).1
theorem pick_big {a : List Int} (ha : Byt a) {n t : Nat} (h1 : 1 ≤ n) (h2 : n ≤ 65536) (ht : t ≤ 900000) (s : Int) : ∃ (v t' : Nat) (s' : Int), v < n ∧ t' ≤ t + 2 ∧ s_l00Src_pick_0p0_C0 (n : Int) a (t : Int) s = some ((v : Int), (t' : Int), s') := by
  by_cases h : n ≤ 200
  · obtain ⟨v, t', s', e1, e2, e3⟩ := src_pick ha h1 h (t := t) (by omega) s
    exact ⟨v, t', s', e1, by omega, e3⟩
  · obtain ⟨v, s1, hv, e⟩ := src_next ha (t := t) (by omega) s
    obtain ⟨w, s2, hw, e'⟩ := src_next ha (t := t + 1) (by omega) s1
    unfold s_l00Src_pick_0p0_C0
    rw [decide_eq_false (by omega), bsel_false, e, obind3_eq, decide_eq_true (by omega), bsel_true, olet_eq, wi64 (by omega) (by omega), e', obind3_eq, olet_eq, wi64 (by omega) (by omega)]
    unfold s_l00Src_pick_0p0_C0_k1
    rw [decide_eq_false (by omega), Bool.not_false, need_true]
    simp only [olet_eq]
    refine ⟨(v * 256 + w) % n, t + 1 + 1, s2, Nat.mod_lt _ (by omega), Nat.le_refl _, ?_⟩
    rw [show (v : Int) * 256 + (w : Int) = ((v * 256 + w : Nat) : Int) from by omega, Int.tmod_eq_emod_of_nonneg (by omega), Int.natCast_emod]
theorem src_one {a : List Int} (ha : Byt a) {n t : Nat} (h1 : 1 ≤ n) (h2 : n ≤ 200) (ht : t ≤ 900000) (s : Int) : ∃ (b : Bool) (t' : Nat) (s' : Int), t' ≤ t + 2 ∧ s_l00Src_one_0p0_C0 (n : Int) a (t : Int) s = some (b, (t' : Int), s') := by
  obtain ⟨v, t', s', e1, e2, e3⟩ := pick_big ha h1 (by omega) ht s
  refine ⟨decide ((v : Int) = 0), t', s', e2, ?_⟩
  unfold s_l00Src_one_0p0_C0
  rw [e3, obind3_eq]
theorem s_from_ok {n : Int} (h0 : 0 ≤ n) (h : n < 4294967296) : ∃ x, FOk .f32 x ∧ s_l01From n = some x := by
  have := s_from (n := n.toNat) (by omega)
  rw [show ((n.toNat : Nat) : Int) = n from by omega] at this
  exact ⟨_, by have := ffb_ok (n := n.toNat) (by omega); rwa [show ((n.toNat : Nat) : Int) = n from by omega] at this, this⟩
theorem src_among {a : List Int} (ha : Byt a) {t : Nat} {L : List Int} (h1 : 1 ≤ L.length) (h2 : L.length ≤ 200) (ht : t ≤ 900000) (s : Int) : ∃ (x : Int) (t' : Nat) (s' : Int), x ∈ L ∧ t' ≤ t + 2 ∧ s_l00Src_among_0p0_1o1_C0 a (t : Int) s L = some (x, (t' : Int), s', L) := by
  obtain ⟨v, t', s', e1, e2, e3⟩ := pick_big ha (n := L.length) h1 (by omega) ht s
  have hx : L[v]? = some (L.getD v 0) := by simp [List.getD, e1]
  refine ⟨L.getD v 0, t', s', List.mem_of_getElem? hx, e2, ?_⟩
  unfold s_l00Src_among_0p0_1o1_C0
  rw [e3, obind3_eq, at?_n 0 e1, obind_eq]
theorem draw_plain {a : List Int} (ha : Byt a) {t : Nat} (ht : t ≤ 800000) (s : Int) : ∃ (x : F) (t' : Nat) (s' : Int), FOk .f32 x ∧ t' ≤ t + 4 ∧ s_l01DrawPlain_0p0_C0 a (t : Int) s = some (x, (t' : Int), s') := by
  obtain ⟨v, t1, s1, hv, ht1, e1⟩ := pick_big ha (n := 129) (t := t) (by decide) (by decide) (by omega) s
  obtain ⟨b, t2, s2, ht2, e2⟩ := src_one ha (n := 4) (t := t1) (by decide) (by decide) (by omega) s1
  have e1 : s_l00Src_pick_0p0_C0 129 a (t : Int) s = _ := e1
  have e2 : s_l00Src_one_0p0_C0 4 a (t1 : Int) s1 = _ := e2
  unfold s_l01DrawPlain_0p0_C0
  rw [e1, obind3_eq]
  simp only [olet_eq]
  rw [e2, obind3_eq]
  cases b with
  | true => rw [bsel_true]; exact ⟨_, t2, s2, fop_fok _ _ _, by omega, rfl⟩
  | false => rw [bsel_false]; exact ⟨_, t2, s2, fop_fok _ _ _, by omega, rfl⟩
theorem draw_float {a : List Int} (ha : Byt a) {t : Nat} (ht : t ≤ 700000) (s : Int) : ∃ (x : F) (t' : Nat) (s' : Int), FOk .f32 x ∧ t' ≤ t + 20 ∧ s_l01DrawFloat_0p0_C0 a (t : Int) s = some (x, (t' : Int), s') := by
  obtain ⟨b, t1, s1, ht1, e1⟩ := src_one ha (n := 12) (t := t) (by decide) (by decide) (by omega) s
  have e1 : s_l00Src_one_0p0_C0 12 a (t : Int) s = _ := e1
  unfold s_l01DrawFloat_0p0_C0
  rw [e1, obind3_eq]
  cases b with
  | false =>
    obtain ⟨x, t2, s2, hx, ht2, e2⟩ := draw_plain ha (t := t1) (by omega) s1
    rw [Bool.not_false, bsel_true, e2, obind3_eq]
    exact ⟨x, t2, s2, hx, by omega, rfl⟩
  | true =>
    obtain ⟨v, t2, s2, hv, ht2, e2⟩ := pick_big ha (n := 4) (t := t1) (by decide) (by decide) (by omega) s1
    have e2 : s_l00Src_pick_0p0_C0 4 a (t1 : Int) s1 = _ := e2
    rw [Bool.not_true, bsel_false, e2, obind3_eq]
    by_cases h0 : v = 0
    · obtain ⟨x, t3, s3, hx, ht3, e3⟩ := src_among ha (t := t2) (L := [0, 2147483648, 2139095040, 4286578688, 2143289344, 1, 2139095039, 8388608, 8388607, 2147483649]) (by decide) (by decide) (by omega) s2
      have hr : 0 ≤ x ∧ x < 4294967296 := by
        simp only [List.mem_cons, List.not_mem_nil, or_false] at hx
        omega
      obtain ⟨y, hy, ey⟩ := s_from_ok hr.1 hr.2
      rw [decide_eq_true (by omega), bsel_true, e3, obind4_eq, decide_eq_true (by rfl), need_true, ey, obind_eq]
      exact ⟨y, t3, s3, hy, by omega, rfl⟩
    · rw [decide_eq_false (by omega), bsel_false]
      by_cases h1 : v = 1
      · obtain ⟨u, t3, s3, hu, ht3, e3⟩ := pick_big ha (n := 65536) (t := t2) (by decide) (by decide) (by omega) s2
        obtain ⟨w, t4, s4, hw, ht4, e4⟩ := pick_big ha (n := 65536) (t := t3) (by decide) (by decide) (by omega) s3
        have e3 : s_l00Src_pick_0p0_C0 65536 a (t2 : Int) s2 = _ := e3
        have e4 : s_l00Src_pick_0p0_C0 65536 a (t3 : Int) s3 = _ := e4
        obtain ⟨y, hy, ey⟩ := s_from_ok (n := (u : Int) * 65536 + (w : Int)) (by omega) (by omega)
        rw [decide_eq_true (by omega), bsel_true, e3, obind3_eq, olet_eq, wi64 (by omega) (by omega), e4, obind3_eq, olet_eq, wi64 (by omega) (by omega), ey, obind_eq]
        exact ⟨y, t4, s4, hy, by omega, rfl⟩
      · rw [decide_eq_false (by omega), bsel_false]
        by_cases h2 : v = 2
        · obtain ⟨u, t3, s3, hu, ht3, e3⟩ := pick_big ha (n := 65536) (t := t2) (by decide) (by decide) (by omega) s2
          have e3 : s_l00Src_pick_0p0_C0 65536 a (t2 : Int) s2 = _ := e3
          obtain ⟨y, hy, ey⟩ := s_from_ok (n := (u : Int) * 65536) (by omega) (by omega)
          rw [decide_eq_true (by omega), bsel_true, e3, obind3_eq, olet_eq, wi64 (by omega) (by omega), ey, obind_eq]
          exact ⟨y, t3, s3, hy, by omega, rfl⟩
        · obtain ⟨z, t3, s3, hz, ht3, e3⟩ := draw_plain ha (t := t2) (by omega) s2
          obtain ⟨x, t4, s4, hx, ht4, e4⟩ := src_among ha (t := t3) (L := [8388608, 2130706432, 1610612736, 536870912]) (by decide) (by decide) (by omega) s3
          have hr : 0 ≤ x ∧ x < 4294967296 := by
            simp only [List.mem_cons, List.not_mem_nil, or_false] at hx
            omega
          obtain ⟨y, hy, ey⟩ := s_from_ok hr.1 hr.2
          rw [decide_eq_false (by omega), bsel_false, e3, obind3_eq, e4, obind4_eq, decide_eq_true (by rfl), need_true, ey, obind_eq]
          exact ⟨_, t4, s4, fop_fok _ _ _, by omega, rfl⟩
theorem b10_number {a : List Int} (ha : Byt a) : ∃ x : F, FOk .f32 x ∧ s_B10Number a = some x := by
  obtain ⟨b, t1, s1, ht1, e1⟩ := src_one ha (n := 2) (t := 0) (by decide) (by decide) (by decide) 0
  have e1 : s_l00Src_one_0p0_C0 2 a 0 0 = _ := e1
  unfold s_B10Number s_l00From
  rw [obind3_eq, e1, obind3_eq]
  cases b with
  | true =>
    obtain ⟨u, t3, s3, hu, ht3, e3⟩ := pick_big ha (n := 65536) (t := t1) (by decide) (by decide) (by omega) s1
    obtain ⟨w, t4, s4, hw, ht4, e4⟩ := pick_big ha (n := 65536) (t := t3) (by decide) (by decide) (by omega) s3
    have e3 : s_l00Src_pick_0p0_C0 65536 a (t1 : Int) s1 = _ := e3
    have e4 : s_l00Src_pick_0p0_C0 65536 a (t3 : Int) s3 = _ := e4
    obtain ⟨y, hy, ey⟩ := s_from_ok (n := (u : Int) * 65536 + (w : Int)) (by omega) (by omega)
    rw [bsel_true, e3, obind3_eq, olet_eq, wi64 (by omega) (by omega), e4, obind3_eq, olet_eq, wi64 (by omega) (by omega), ey, obind_eq]
    exact ⟨y, hy, rfl⟩
  | false =>
    obtain ⟨x, t2, s2, hx, ht2, e2⟩ := draw_float ha (t := t1) (by omega) s1
    rw [bsel_false, e2, obind3_eq]
    exact ⟨x, hx, rfl⟩
theorem hexB_no {b : UInt8} (h : b.toNat < 48) (x : F) : b ∉ hexB x := by
  intro hm
  rw [hexB_hU] at hm
  obtain ⟨m, hm, em⟩ := hU_mem hm
  have hv := hxb_val m hm
  rw [← em] at hv
  split at hv <;> omega
theorem cut_join {c : UInt8} : ∀ (r : List (List UInt8)) (w : List UInt8), c ∉ w → (∀ x ∈ r, c ∉ x) → cutL c (w ++ Go.Lib.joinTail [c] r) = w :: r
  | [], w, h, _ => by
    rw [show Go.Lib.joinTail [c] [] = [] from rfl, List.append_nil, cutL_none h]
  | v :: r, w, h, h2 => by
    rw [show Go.Lib.joinTail [c] (v :: r) = c :: (v ++ Go.Lib.joinTail [c] r) from by simp [Go.Lib.joinTail], cutL_hit h, cut_join r v (h2 v (by simp)) fun x hx => h2 x (by simp [hx])]
theorem neg_zero : Dy .f32 0 0 (some 2147483648) := ⟨2147483648, rfl, by decide, by decide, by decide, by decide +kernel⟩
theorem fromBits_eq {x : F} (hx : FOk .f32 x) : i_FromBits ((bitsN x : Nat) : Int) = some (x, true) := by
  have hl := bitsN_lt hx
  unfold i_FromBits i_inRange
  rw [decide_eq_true (by omega), bsel_true, obind_eq, decide_eq_true (by omega), bsel_true, olet_eq, u32_wrap (by omega) (by omega), fw_need (by omega) (by omega), need_true, ffb_bits hx]
theorem draw_plain_20 {a : List Int} (ha : Byt a) {t : Nat} (ht : t ≤ 700000) (s : Int) : ∃ (x : F) (t' : Nat) (s' : Int), FOk .f32 x ∧ t' ≤ t + 20 ∧ s_l01DrawPlain_0p0_C0 a (t : Int) s = some (x, (t' : Int), s') := by
  obtain ⟨x, t', s', h1, h2, h3⟩ := draw_plain ha (t := t) (by omega) s
  exact ⟨x, t', s', h1, by omega, h3⟩
theorem floats_1 {a : List Int} (ha : Byt a) : ∀ (m t : Nat) (L : List F) (s : Int), t + 20 * m ≤ 500000 → L.length + m ≤ 1000 →
    ∃ (L' : List F) (t' : Nat) (s' : Int), L'.length = m ∧ FOks L' ∧ loopM (s_l01DrawFloats_0p0_C0_s1 a) (L, (t : Int), s, (m : Int)) = some (.inl (L ++ L', (t' : Int), s'))
  | 0, t, L, s, ht, hL => by
    refine ⟨[], t, s, rfl, fun x hx => by simp at hx, ?_⟩
    rw [loopM_out (e := (L, (t : Int), s))]
    · simp
    · show s_l01DrawFloats_0p0_C0_b1 a L (t : Int) s ((0 : Nat) : Int) = _
      unfold s_l01DrawFloats_0p0_C0_b1
      rw [decide_eq_false (by omega), bsel_false]
  | m + 1, t, L, s, ht, hL => by
    obtain ⟨p, t1, s1, hp, ht1, e⟩ := draw_float ha (t := t) (by omega) s
    have st : s_l01DrawFloats_0p0_C0_s1 a (L, (t : Int), s, ((m + 1 : Nat) : Int)) = some (.next (L ++ [p], (t1 : Int), s1, (m : Int))) := by
      show s_l01DrawFloats_0p0_C0_b1 a L (t : Int) s ((m + 1 : Nat) : Int) = _
      unfold s_l01DrawFloats_0p0_C0_b1
      rw [decide_eq_true (by omega), bsel_true, e, obind3_eq, show apok 4 L.length 1 = true from by simp only [apok, Bool.and_eq_true, decide_eq_true_eq]; omega, need_true, olet_eq, wi64 (by omega) (by omega), show ((m + 1 : Nat) : Int) - 1 = (m : Int) from by omega]
    obtain ⟨L', t', s', h1, h2, h3⟩ := floats_1 ha m t1 (L ++ [p]) s1 (by omega) (by simp; omega)
    refine ⟨p :: L', t', s', by simp [h1], ?_, ?_⟩
    · intro x hx
      rcases List.mem_cons.1 hx with rfl | hx
      · exact hp
      · exact h2 x hx
    · rw [loopM_next st, h3]; simp
theorem floats_2 {a : List Int} (ha : Byt a) : ∀ (m t : Nat) (L : List F) (s : Int), t + 20 * m ≤ 500000 → L.length + m ≤ 1000 →
    ∃ (L' : List F) (t' : Nat) (s' : Int), L'.length = m ∧ FOks L' ∧ loopM (s_l01DrawFloats_0p0_C0_s2 a) (L, (t : Int), s, (m : Int)) = some (.inl (L ++ L', (t' : Int), s'))
  | 0, t, L, s, ht, hL => by
    refine ⟨[], t, s, rfl, fun x hx => by simp at hx, ?_⟩
    rw [loopM_out (e := (L, (t : Int), s))]
    · simp
    · show s_l01DrawFloats_0p0_C0_b2 a L (t : Int) s ((0 : Nat) : Int) = _
      unfold s_l01DrawFloats_0p0_C0_b2
      rw [decide_eq_false (by omega), bsel_false]
  | m + 1, t, L, s, ht, hL => by
    obtain ⟨p, t1, s1, hp, ht1, e⟩ := draw_plain_20 ha (t := t) (by omega) s
    have st : s_l01DrawFloats_0p0_C0_s2 a (L, (t : Int), s, ((m + 1 : Nat) : Int)) = some (.next (L ++ [p], (t1 : Int), s1, (m : Int))) := by
      show s_l01DrawFloats_0p0_C0_b2 a L (t : Int) s ((m + 1 : Nat) : Int) = _
      unfold s_l01DrawFloats_0p0_C0_b2
      rw [decide_eq_true (by omega), bsel_true, e, obind3_eq, show apok 4 L.length 1 = true from by simp only [apok, Bool.and_eq_true, decide_eq_true_eq]; omega, need_true, olet_eq, wi64 (by omega) (by omega), show ((m + 1 : Nat) : Int) - 1 = (m : Int) from by omega]
    obtain ⟨L', t', s', h1, h2, h3⟩ := floats_2 ha m t1 (L ++ [p]) s1 (by omega) (by simp; omega)
    refine ⟨p :: L', t', s', by simp [h1], ?_, ?_⟩
    · intro x hx
      rcases List.mem_cons.1 hx with rfl | hx
      · exact hp
      · exact h2 x hx
    · rw [loopM_next st, h3]; simp
theorem b10_numbers {a : List Int} (ha : Byt a) {n : Nat} (hn : n ≤ 100) : ∃ L : List F, L.length = n ∧ FOks L ∧ s_B10Numbers a (n : Int) = some L := by
  obtain ⟨b, t1, s1, ht1, e1⟩ := src_one ha (n := 4) (t := 0) (by decide) (by decide) (by decide) 0
  have e1 : s_l00Src_one_0p0_C0 4 a 0 0 = _ := e1
  unfold s_B10Numbers s_l00From s_l01DrawFloats_0p0_C0
  rw [obind3_eq, e1, obind3_eq]
  cases b with
  | true =>
    obtain ⟨L, t', s', h1, h2, h3⟩ := floats_1 ha n t1 [] s1 (by omega) (by simp; omega)
    refine ⟨L, h1, h2, ?_⟩
    rw [bsel_true, h3]; rfl
  | false =>
    obtain ⟨L, t', s', h1, h2, h3⟩ := floats_2 ha n t1 [] s1 (by omega) (by simp; omega)
    refine ⟨L, h1, h2, ?_⟩
    rw [bsel_false, h3]; rfl
theorem b10_at12 {a : List Int} (ha : Byt a) : ∃ v : Nat, v < 12 ∧ w_b10At a 0 12 = some (v : Int) := by
  unfold w_b10At
  rw [decide_eq_false (by decide), bsel_false]
  by_cases hk : 0 < a.length
  · obtain ⟨x, hx⟩ : ∃ x, a[0]? = some x := ⟨_, List.getElem?_eq_getElem (by omega)⟩
    obtain ⟨x0, x1⟩ := ha x (List.mem_of_getElem? hx)
    rw [decide_eq_true (by omega), bsel_true, at?_of (by omega) hx, obind_eq]
    simp only [olet_eq]
    rw [wi64 (by omega) (by omega), decide_eq_false (by decide), Bool.not_false, need_true]
    refine ⟨x.toNat % 12, Nat.mod_lt _ (by omega), ?_⟩
    rw [Int.tmod_eq_emod_of_nonneg (by omega)]
    congr 1; omega
  · rw [decide_eq_false (by omega), bsel_false]
    exact ⟨11, by decide, by decide⟩
def sumF : List F → F → F
  | [], y => y
  | x :: r, y => sumF r (fop .add .f32 y x)
theorem sumF_ok : ∀ (l : List F) {y : F}, FOk .f32 y → FOk .f32 (sumF l y)
  | [], _, h => h
  | _ :: r, _, _ => sumF_ok r (fop_fok _ _ _)
theorem sum_i_sum {l : List F} (hl : l.length ≤ 1000) : ∀ (k j : Nat) (y : F), j + k = l.length → loopM (i_sum_s1 l) (y, (j : Int)) = some (.inl (sumF (l.drop j) y))
  | 0, j, y, hj => by
    rw [List.drop_eq_nil_of_le (by omega), loopM_out (e := y)]
    · rfl
    · show i_sum_b1 l y (j : Int) = _
      unfold i_sum_b1
      rw [decide_eq_false (by omega), bsel_false]
  | k + 1, j, y, hj => by
    obtain ⟨x, hx⟩ : ∃ x, l[j]? = some x := ⟨_, List.getElem?_eq_getElem (by omega)⟩
    have st : i_sum_s1 l (y, (j : Int)) = some (.next (fop .add .f32 y x, ((j + 1 : Nat) : Int))) := by
      show i_sum_b1 l y (j : Int) = _
      unfold i_sum_b1
      rw [decide_eq_true (by omega), bsel_true, at?_of (by omega) (by rw [show (j : Int).toNat = j from by omega]; exact hx), obind_eq]
      simp only [olet_eq]
      rw [wsucc (by omega)]
    rw [loopM_next st, sum_i_sum hl k (j + 1) _ (by omega), drop_at hx]
    rfl
theorem sum_w_FnNumbers {l : List F} (hl : l.length ≤ 1000) : ∀ (k j : Nat) (y : F), j + k = l.length → loopM (w_FnNumbers_s1 l) (y, (j : Int)) = some (.inl (sumF (l.drop j) y))
  | 0, j, y, hj => by
    rw [List.drop_eq_nil_of_le (by omega), loopM_out (e := y)]
    · rfl
    · show w_FnNumbers_b1 l y (j : Int) = _
      unfold w_FnNumbers_b1
      rw [decide_eq_false (by omega), bsel_false]
  | k + 1, j, y, hj => by
    obtain ⟨x, hx⟩ : ∃ x, l[j]? = some x := ⟨_, List.getElem?_eq_getElem (by omega)⟩
    have st : w_FnNumbers_s1 l (y, (j : Int)) = some (.next (fop .add .f32 y x, ((j + 1 : Nat) : Int))) := by
      show w_FnNumbers_b1 l y (j : Int) = _
      unfold w_FnNumbers_b1
      rw [decide_eq_true (by omega), bsel_true, at?_of (by omega) (by rw [show (j : Int).toNat = j from by omega]; exact hx), obind_eq]
      simp only [olet_eq]
      rw [wsucc (by omega)]
    rw [loopM_next st, sum_w_FnNumbers hl k (j + 1) _ (by omega), drop_at hx]
    rfl
theorem rdFL_back : ∀ {l : List F}, FOks l → rdFL (l.map hexB) = some l
  | [], _ => rfl
  | x :: l, h => by
    rw [List.map_cons]
    unfold rdFL
    rw [rdF_some (h x (by simp)) rfl, rdFL_back fun y hy => h y (by simp [hy])]
theorem numbersBack {l : List F} (hl : l.length ≤ 256) (hb : FOks l) : i_ReadNumbers (mkS (txtF l)) = some (true, l) := by
  have hlen := txtF_len l
  rw [iF_eq (by rw [byt_mk]; omega), byt_mk]
  congr 1
  cases l with
  | nil => rfl
  | cons x r =>
    have hil := hexB_len x
    have hj : txtF (x :: r) = hexB x ++ Go.Lib.joinTail [44] (r.map hexB) := by
      unfold txtF
      rw [if_neg (by simp), List.map_cons, Go.Lib.join_cons]
    have hne : ¬ txtF (x :: r) = [110, 111, 110, 101] := fun e => by
      rw [hj] at e
      have := congrArg List.length e
      rw [List.length_append, hil] at this
      simp at this
      omega
    have hcut : cutL 44 (txtF (x :: r)) = (x :: r).map hexB := by
      rw [hj, cut_join _ _ (hexB_no (by decide) x) (fun y hy => by
        obtain ⟨z, _, rfl⟩ := List.mem_map.1 hy
        exact hexB_no (by decide) z), List.map_cons]
    unfold rlF
    rw [if_neg hne, hcut, rdFL_back hb]
    simp only
    rw [if_pos (by rw [List.length_map]; exact hl)]
theorem same_loop {l : List F} (hl : l.length ≤ 1000) (hb : FOks l) : loopM (w_FnNumbers_s6 l l) 0 = some (.inl ()) := by
  refine loop_all (n := l.length) (by omega) (fun i hi => ?_) ?_
  · obtain ⟨x, hx⟩ : ∃ x, l[i]? = some x := ⟨_, List.getElem?_eq_getElem hi⟩
    have hc := hb x (List.mem_of_getElem? hx)
    show w_FnNumbers_b6 l l (i : Int) = _
    unfold w_FnNumbers_b6 s_SameNumber
    rw [decide_eq_true (by omega), bsel_true, at?_of (by omega) (by rw [show (i : Int).toNat = i from by omega]; exact hx), obind_eq, obind_eq, s_l01Same_eq hc hc, obind_eq, obind_eq, decide_eq_true rfl, bsel_true, olet_eq, wsucc (by omega)]
  · show w_FnNumbers_b6 l l (l.length : Int) = _
    unfold w_FnNumbers_b6
    rw [decide_eq_false (by omega), bsel_false]
theorem ldexp_eq : x_math_Ldexp (some 4607182418800017408) (-126) = some (some 4039728865751334912) := by decide +kernel
def subn (x : F) : Bool := !feq .f32 x (some 0) && flt .f64 (fabs (fwiden x)) (some 4039728865751334912)
theorem isSub_eq (x : F) : i_IsSubnormal x = some (subn x) := by
  unfold i_IsSubnormal subn x_math_Abs
  cases feq .f32 x (some 0)
  · rw [Bool.not_false, bsel_true]
    simp only [olet_eq, obind_eq]
    rw [ldexp_eq, obind_eq, Bool.true_and]
  · rw [Bool.not_true, bsel_false, Bool.false_and]
theorem and_top (x : Nat) : x &&& 2 ^ 63 = (x.testBit 63).toNat * 2 ^ 63 := by
  cases hb : x.testBit 63 with
  | false =>
    rw [Bool.toNat_false, Nat.zero_mul]
    apply Nat.eq_of_testBit_eq
    intro i
    rw [Nat.testBit_and, Nat.testBit_two_pow, Nat.zero_testBit]
    by_cases h : 63 = i
    · subst h; rw [hb]; rfl
    · simp [h]
  | true =>
    rw [Bool.toNat_true, Nat.one_mul]
    apply Nat.eq_of_testBit_eq
    intro i
    rw [Nat.testBit_and, Nat.testBit_two_pow]
    by_cases h : 63 = i
    · subst h; rw [hb]; rfl
    · simp [h]
theorem iand_top (n : Nat) : iand .u64 (n : Int) 9223372036854775808 = 0 ∨ iand .u64 (n : Int) 9223372036854775808 = 9223372036854775808 := by
  unfold iand
  have e2 : (BitVec.ofInt 64 9223372036854775808).toNat = 2 ^ 63 := by decide
  have e : (BitVec.ofInt IntKind.u64.bits (n : Int) &&& BitVec.ofInt IntKind.u64.bits 9223372036854775808).toNat = ((BitVec.ofInt 64 (n : Int)).toNat.testBit 63).toNat * 2 ^ 63 := by
    show (BitVec.ofInt 64 (n : Int) &&& BitVec.ofInt 64 9223372036854775808).toNat = _
    rw [BitVec.toNat_and, e2, and_top]
  rw [e]
  cases (BitVec.ofInt 64 (n : Int)).toNat.testBit 63
  · left; decide
  · right; decide
theorem copysign_zero (b : Nat) : x_math_Copysign (some 0) (some b) = some (some 0) ∨ x_math_Copysign (some 0) (some b) = some (some 9223372036854775808) := by
  have z : iandn .u64 ((0 : Nat) : Int) 9223372036854775808 = 0 := by decide
  have o0 : ior .u64 0 0 = 0 := by decide
  have o1 : ior .u64 0 9223372036854775808 = 9223372036854775808 := by decide
  have n0 : (decide ((0 : Int) ≤ 0) && decide ((0 : Int).toNat < 2 ^ FloatKind.f64.format.width)) = true := by decide
  have n1 : (decide ((0 : Int) ≤ 9223372036854775808) && decide ((9223372036854775808 : Int).toNat < 2 ^ FloatKind.f64.format.width)) = true := by decide
  have f0 : ffb .f64 0 = some 0 := by decide +kernel
  have f1 : ffb .f64 9223372036854775808 = some 9223372036854775808 := by decide +kernel
  unfold x_math_Copysign
  rw [obind_eq, olet_eq, obind_eq, olet_eq, olet_eq, z]
  rcases iand_top b with h | h
  · left; rw [h, o0, n0, need_true, f0]
  · right; rw [h, o1, n1, need_true, f1]
theorem flush_eq {x : F} (hx : FOk .f32 x) : ∃ z, i_FlushNumber x = some z ∧ FOk .f32 z ∧ subn z = false ∧ (subn x = decide (x = z)) = False := by
  have z0 : subn (some 0) = false := by decide +kernel
  have z1 : subn (some 2147483648) = false := by decide +kernel
  unfold i_FlushNumber
  rw [isSub_eq, obind_eq]
  cases hs : subn x with
  | false =>
    rw [bsel_false]
    exact ⟨x, rfl, hx, hs, by simp⟩
  | true =>
    rw [bsel_true]
    have hne : feq .f32 x (some 0) = false := by
      unfold subn at hs
      cases h : feq .f32 x (some 0)
      · rfl
      · rw [h] at hs; cases hs
    cases x with
    | none => cases hs
    | some b =>
      have hw : fwiden (some b) = some (FloatKind.f64.encode (FloatKind.f32.decode b)) := rfl
      rw [olet_eq, hw]
      rcases copysign_zero (FloatKind.f64.encode (FloatKind.f32.decode b)) with h | h
      · have e : fnarrow (some 0) = some (some 0) := by decide +kernel
        rw [h, obind_eq, e, obind_eq]
        refine ⟨some 0, rfl, (Dy.zero .f32 (s := 0) (by decide)).fok, z0, ?_⟩
        have : ¬ some b = (some 0 : F) := fun e => by
          rw [e] at hne
          have : feq .f32 (some 0) (some 0) = true := by decide +kernel
          rw [this] at hne; cases hne
        simp [this]
      · have e : fnarrow (some 9223372036854775808) = some (some 2147483648) := by decide +kernel
        rw [h, obind_eq, e, obind_eq]
        refine ⟨some 2147483648, rfl, neg_zero.fok, z1, ?_⟩
        have : ¬ some b = (some 2147483648 : F) := fun e => by
          rw [e] at hne
          have : feq .f32 (some 2147483648) (some 0) = true := by decide +kernel
          rw [this] at hne; cases hne
        simp [this]
def sineP (u : F) : Nat → F → F
  | 0, p => p
  | k + 1, p => sineP u k (fop .sub .f64 (some 4607182418800017408) (fop .quo .f64 (fop .mul .f64 u p) (fint .f64 ((2 * (k + 1) : Nat) * (2 * (k + 1) + 1 : Nat) : Int))))
theorem sine_loop (u : F) : ∀ (k : Nat) (p : F), k ≤ 8 → loopM (i_sine_s3 u) (p, (k : Int)) = some (.inl (sineP u k p))
  | 0, p, _ => by
    rw [loopM_out (e := p)]
    · rfl
    · show i_sine_b3 u p ((0 : Nat) : Int) = _
      unfold i_sine_b3
      rw [decide_eq_false (by omega), bsel_false]
  | k + 1, p, hk => by
    have st : i_sine_s3 u (p, ((k + 1 : Nat) : Int)) = some (.next (fop .sub .f64 (some 4607182418800017408) (fop .quo .f64 (fop .mul .f64 u p) (fint .f64 ((2 * (k + 1) : Nat) * (2 * (k + 1) + 1 : Nat) : Int))), (k : Int))) := by
      show i_sine_b3 u p ((k + 1 : Nat) : Int) = _
      have e1 : (2 : Int) * ((k + 1 : Nat) : Int) = ((2 * (k + 1) : Nat) : Int) := by omega
      have e2 : (((2 * (k + 1) : Nat) : Int) + 1) = ((2 * (k + 1) + 1 : Nat) : Int) := by omega
      have hb : 2 * (k + 1) * (2 * (k + 1) + 1) ≤ 16 * 17 := Nat.mul_le_mul (by omega) (by omega)
      unfold i_sine_b3 i_mul64
      rw [decide_eq_true (by omega), bsel_true]
      simp only [olet_eq, obind_eq]
      rw [e1, wi64 (n := ((2 * (k + 1) : Nat) : Int)) (by omega) (by omega), e2, wi64 (n := ((2 * (k + 1) + 1 : Nat) : Int)) (by omega) (by omega), ← Int.natCast_mul, wi64 (by omega) (by omega), wi64 (by omega) (by omega), show ((k + 1 : Nat) : Int) - 1 = (k : Int) from by omega]
    rw [loopM_next st, sine_loop u k _ (by omega)]
    rfl
theorem sine_quarter : ∃ z, i_SineTurns (some 1048576000) = some z ∧ feq .f32 z (some 1065353216) = true := by
  have f1 : i_IsFinite (some 1048576000) = some true := by decide +kernel
  have f2 : i_isFar (fwiden (some 1048576000)) = some false := by decide +kernel
  have f3 : i_part (fwiden (some 1048576000)) = some (some 4598175219545276416) := by decide +kernel
  have f4 : fle .f64 (some 4602678819172646912) (some 4598175219545276416) = false := by decide +kernel
  have f5 : flt .f64 (some 4598175219545276416) (some 4598175219545276416) = false := by decide +kernel
  have key : ∀ z u : F, z = fop .mul .f64 (some 4598175219545276416) (some 4618760256179416344) → u = fop .mul .f64 z z →
      i_sine (fwiden (some 1048576000)) = some (fop .mul .f64 z (sineP u 8 (some 4607182418800017408))) := by
    intro z u hz hu
    have sl : loopM (i_sine_s3 u) (some 4607182418800017408, 8) = some (.inl (sineP u 8 (some 4607182418800017408))) := sine_loop u 8 _ (by decide)
    unfold i_sine
    rw [f3, obind_eq, f4, bsel_false]
    unfold i_sine_k1
    rw [f5, bsel_false]
    unfold i_sine_k2 i_mul64
    simp only [olet_eq, obind_eq]
    rw [← hz, ← hu, sl]
    simp only [obind_eq, osum]
    unfold i_sine_k3 i_mul64
    rw [bsel_false]
    simp only [olet_eq, obind_eq]
  have val : ∃ z, fnarrow (fop .mul .f64 (fop .mul .f64 (some 4598175219545276416) (some 4618760256179416344)) (sineP (fop .mul .f64 (fop .mul .f64 (some 4598175219545276416) (some 4618760256179416344)) (fop .mul .f64 (some 4598175219545276416) (some 4618760256179416344))) 8 (some 4607182418800017408))) = some z ∧ feq .f32 z (some 1065353216) = true :=
    ⟨some 1065353216, by decide +kernel, by decide +kernel⟩
  obtain ⟨z, v1, v2⟩ := val
  refine ⟨z, ?_, v2⟩
  unfold i_SineTurns
  rw [f1, obind_eq, bsel_true, olet_eq, f2, obind_eq, bsel_false, olet_eq, key _ _ rfl rfl, obind_eq, v1, obind_eq]
theorem one_bd : Bd 0 (some 4607182418800017408) := bd_of (by decide +kernel)
theorem angle3 : ∀ (k v : Nat) (y : F), v + k = 3 → Bd (1 + (v : Int)) y → ∃ z, loopM i_AngleTurns_s3 (y, (v : Int)) = some (.inl z) ∧ Bd 4 z
  | 0, v, y, hv, hy => by
    refine ⟨y, ?_, hy.mono (by omega)⟩
    rw [loopM_out (e := y)]
    show i_AngleTurns_b3 y (v : Int) = _
    unfold i_AngleTurns_b3
    rw [decide_eq_false (by omega), bsel_false]
  | k + 1, v, y, hv, hy => by
    have m := hy.mul hy (by omega) (by omega)
    have a := (one_bd.mono (show (0 : Int) ≤ 1 + (v : Int) + (1 + (v : Int)) + 2 by omega)).add m (by omega) (by omega)
    have r := a.sqrt (by omega) (by omega)
    have d := one_add r (by omega) (by omega)
    have q := hy.quo d (by omega) (by omega)
    obtain ⟨z, h1, h2⟩ := angle3 k (v + 1) _ (by omega) (q.mono (show 1 + (v : Int) - 0 + 1 ≤ 1 + ((v + 1 : Nat) : Int) by omega))
    refine ⟨z, ?_, h2⟩
    have st : i_AngleTurns_s3 (y, (v : Int)) = some (.next (fop .quo .f64 y (fop .add .f64 (some 4607182418800017408) (fsqrt (fop .add .f64 (some 4607182418800017408) (fop .mul .f64 y y)))), ((v + 1 : Nat) : Int))) := by
      show i_AngleTurns_b3 y (v : Int) = _
      unfold i_AngleTurns_b3 i_mul64 x_math_Sqrt
      rw [decide_eq_true (by omega), bsel_true]
      simp only [olet_eq, obind_eq]
      rw [wsucc (by omega)]
    rw [loopM_next st]; exact h1
theorem odd_lo : ∀ m : Nat, m < 8 → Lo 0 (fint .f64 (2 * (m : Int) + 1))
  | 0, _ => lo_of (b := 4607182418800017408) (by decide +kernel)
  | 1, _ => lo_of (b := 4613937818241073152) (by decide +kernel)
  | 2, _ => lo_of (b := 4617315517961601024) (by decide +kernel)
  | 3, _ => lo_of (b := 4619567317775286272) (by decide +kernel)
  | 4, _ => lo_of (b := 4621256167635550208) (by decide +kernel)
  | 5, _ => lo_of (b := 4622382067542392832) (by decide +kernel)
  | 6, _ => lo_of (b := 4623507967449235456) (by decide +kernel)
  | 7, _ => lo_of (b := 4624633867356078080) (by decide +kernel)
  | m + 8, h => absurd h (by omega)
theorem angle4 {u : F} (hu : Bd 10 u) : ∀ (m : Nat) (p : F), m ≤ 8 → Bd (14 * (8 - (m : Int))) p → ∃ z, loopM (i_AngleTurns_s4 u) (p, 2 * (m : Int) - 1) = some (.inl z) ∧ Bd 112 z
  | 0, p, _, hp => by
    refine ⟨p, ?_, hp.mono (by omega)⟩
    rw [loopM_out (e := p)]
    show i_AngleTurns_b4 u p (2 * ((0 : Nat) : Int) - 1) = _
    unfold i_AngleTurns_b4
    rw [decide_eq_false (by omega), bsel_false]
  | m + 1, p, hm, hp => by
    have a := hu.mul hp (by omega) (by omega)
    have q := one_bd.quo (odd_lo m (by omega)) (by omega) (by omega)
    have s := (q.mono (show (0 : Int) - 0 + 1 ≤ 10 + 14 * (8 - ((m + 1 : Nat) : Int)) + 2 by omega)).sub a (by omega) (by omega)
    obtain ⟨z, h1, h2⟩ := angle4 hu m _ (by omega) (s.mono (show 10 + 14 * (8 - ((m + 1 : Nat) : Int)) + 2 + 2 ≤ 14 * (8 - (m : Int)) by omega))
    refine ⟨z, ?_, h2⟩
    have st : i_AngleTurns_s4 u (p, 2 * ((m + 1 : Nat) : Int) - 1) = some (.next (fop .sub .f64 (fop .quo .f64 (some 4607182418800017408) (fint .f64 (2 * (m : Int) + 1))) (fop .mul .f64 u p), 2 * (m : Int) - 1)) := by
      show i_AngleTurns_b4 u p (2 * ((m + 1 : Nat) : Int) - 1) = _
      unfold i_AngleTurns_b4 i_mul64
      rw [decide_eq_true (by omega), bsel_true]
      simp only [olet_eq, obind_eq]
      rw [wi64 (by omega) (by omega), show 2 * ((m + 1 : Nat) : Int) - 1 = 2 * (m : Int) + 1 from by omega, show 2 * (m : Int) + 1 - 2 = 2 * (m : Int) - 1 from by omega]
    rw [loopM_next st]; exact h1
theorem angle7 {y : F} (h : Bd 126 y) : ∃ z, FOk .f32 z ∧ i_AngleTurns_k7 y = some z := by
  obtain ⟨z, e⟩ := narrow_bd h
  refine ⟨z, fnarrow_ok e, ?_⟩
  unfold i_AngleTurns_k7
  rw [e, obind_eq]
theorem angle6 {a y : F} (h : Bd 126 y) (hf : FOk .f64 y) : ∃ z, FOk .f32 z ∧ i_AngleTurns_k6 a y = some z := by
  unfold i_AngleTurns_k6
  cases flt .f32 a (some 0)
  · rw [bsel_false]; exact angle7 h
  · rw [bsel_true, olet_eq]; exact angle7 (h.neg hf)
theorem angle5 {a b y : F} (h : Bd 124 y) (hf : FOk .f64 y) : ∃ z, FOk .f32 z ∧ i_AngleTurns_k5 a b y = some z := by
  unfold i_AngleTurns_k5
  cases flt .f32 b (some 0)
  · rw [bsel_false]; exact angle6 (h.mono (by omega)) hf
  · rw [bsel_true, olet_eq]
    have c : Bd 124 (some 4602678819172646912) := bd_of (by decide +kernel)
    exact angle6 ((c.sub h (by omega) (by omega)).mono (by omega)) (fop_fok _ _ _)
theorem angle2 {a b r s y : F} (h : Bd 1 y) : ∃ z, FOk .f32 z ∧ i_AngleTurns_k2 a b r s y = some z := by
  obtain ⟨t, t1, t2⟩ := angle3 3 0 y (by omega) h
  have t1 : loopM i_AngleTurns_s3 (y, 0) = some (.inl t) := t1
  have u := t2.mul t2 (by omega) (by omega)
  have z0 : Bd (14 * (8 - ((8 : Nat) : Int))) (some 0) := bd_of (by decide +kernel)
  obtain ⟨p, p1, p2⟩ := angle4 (u.mono (show (4 : Int) + 4 + 2 ≤ 10 by omega)) 8 (some 0) (by omega) z0
  have p1 : loopM (i_AngleTurns_s4 (fop .mul .f64 t t)) (some 0, 15) = some (.inl p) := p1
  have c8 : Bd 3 (some 4620693217682128896) := bd_of (by decide +kernel)
  have cc : Lo 2 (some 4618760256179416344) := lo_of (by decide +kernel)
  have cq : Bd 122 (some 4598175219545276416) := bd_of (by decide +kernel)
  have a1 := t2.mul p2 (by omega) (by omega)
  have a2 := c8.mul a1 (by omega) (by omega)
  have a3 := a2.quo cc (by omega) (by omega)
  have a4 := cq.sub (a3.mono (show (3 : Int) + (4 + 112 + 2) + 2 - 2 + 1 ≤ 122 by omega)) (by omega) (by omega)
  unfold i_AngleTurns_k2
  rw [t1]
  simp only [obind_eq, osum]
  unfold i_AngleTurns_k3 i_mul64
  simp only [olet_eq, obind_eq]
  rw [p1]
  simp only [obind_eq, osum]
  unfold i_AngleTurns_k4 i_mul64
  simp only [olet_eq, obind_eq]
  cases flt .f64 s r
  · rw [bsel_false]; exact angle5 (a3.mono (by omega)) (fop_fok _ _ _)
  · rw [bsel_true]; exact angle5 (a4.mono (by omega)) (fop_fok _ _ _)
theorem angle_nan : x_math_NaN = some none := by decide +kernel
theorem angle_eq {a b : F} (ha : FOk .f32 a) (hb : FOk .f32 b) : ∃ z, FOk .f32 z ∧ i_AngleTurns a b = some z := by
  have nn : fnarrow none = some none := rfl
  unfold i_AngleTurns
  rw [i_IsFinite_eq hb, i_IsFinite_eq ha, obind_eq]
  cases fb : fin32 b with
  | false => rw [bsel_false, angle_nan, obind_eq, nn, obind_eq]; exact ⟨none, fok_none _, rfl⟩
  | true =>
    rw [bsel_true, obind_eq]
    cases fa : fin32 a with
    | false => rw [bsel_false, angle_nan, obind_eq, nn, obind_eq]; exact ⟨none, fok_none _, rfl⟩
    | true =>
      rw [bsel_true]
      have k1 : ∃ z, FOk .f32 z ∧ i_AngleTurns_k1 a b = some z := by
        cases a with
        | none => cases fa
        | some x =>
          cases b with
          | none => cases fb
          | some y =>
            obtain ⟨X, m, i, e1, r1⟩ := abs_read ha fa
            obtain ⟨Y, n, j, e2, r2⟩ := abs_read hb fb
            unfold i_AngleTurns_k1 x_math_Abs
            simp only [olet_eq, obind_eq]
            rw [e1, e2]
            cases hlt : flt .f64 (some Y) (some X) with
            | true =>
              rw [bsel_true]
              refine angle2 (quo_le r2 r1 ?_)
              have hs : Ieee.double.order X Y = (Ieee.double.order Y X).map Ordering.swap := ford_swap (k := .f64) (a := some Y) (b := some X)
              have hl : (Ieee.double.order Y X == some .lt) = true := hlt
              show (Ieee.double.order X Y == some .lt) = false
              rw [hs]
              cases ho : Ieee.double.order Y X with
              | none => rfl
              | some o => rw [ho] at hl; cases o <;> first | rfl | cases hl
            | false =>
              rw [bsel_false]
              exact angle2 (quo_le r1 r2 hlt)
      cases feq .f32 b (some 0)
      · rw [bsel_false]; exact k1
      · rw [bsel_true]
        cases feq .f32 a (some 0)
        · rw [bsel_false]; exact k1
        · rw [bsel_true]; exact ⟨some 0, (Dy.zero .f32 (s := 0) (by decide)).fok, rfl⟩
theorem num_k6 {x y : F} (hx : FOk .f32 x) (hy : FOk .f32 y) : w_FnNumbers_k6 x y = some true := by
  obtain ⟨z, hz, e⟩ := angle_eq hy hx
  obtain ⟨s, e1, e2⟩ := sine_quarter
  unfold w_FnNumbers_k6 i_AngleOf s_SameNumber i_NarrowNumber
  rw [e, obind_eq, obind_eq, obind_eq, s_l01Same_eq hz hz, obind_eq, obind_eq, decide_eq_true rfl, bsel_true, olet_eq, widen_narrow hx, obind_eq, obind_eq, s_l01Same_eq hx hx, obind_eq, obind_eq, decide_eq_true rfl, bsel_true, e1, obind_eq, e2]
  rfl
theorem w_FnNumbers_true (a0 a1 : List Int) (t0 : a0.length ≤ maxLen) (t1 : a1.length ≤ maxLen) (g0 : ∀ z ∈ a0, (Lit.int .u8 z).wf = true) (g1 : ∀ z ∈ a1, (Lit.int .u8 z).wf = true) : w_FnNumbers a0 a1 = some true := by
  have b0 := byt_of g0
  have b1 := byt_of g1
  unfold w_FnNumbers
  cases hlong : w_b10Long a0 a1 with
  | none =>
    unfold w_b10Long at hlong
    cases hd : decide (1048576 < (a0.length : Int)) <;> rw [hd] at hlong <;> cases hlong
  | some r =>
    rw [obind_eq]
    cases r with
    | true => rw [bsel_true]
    | false =>
      obtain ⟨x, hx, ex⟩ := b10_number b0
      obtain ⟨y, hy, ey⟩ := b10_number b1
      obtain ⟨z, ez, hz, sz, sxz⟩ := flush_eq hx
      obtain ⟨v, hv, ev⟩ := b10_at12 b0
      obtain ⟨L, hl, hb, eL⟩ := b10_numbers b1 (n := v) (by omega)
      have s1 : loopM (w_FnNumbers_s1 L) (some 0, 0) = some (.inl (sumF (L.drop 0) (some 0))) := sum_w_FnNumbers (by omega) L.length 0 _ (by omega)
      have s2 : loopM (i_sum_s1 L) (some 0, 0) = some (.inl (sumF (L.drop 0) (some 0))) := sum_i_sum (by omega) L.length 0 _ (by omega)
      rw [List.drop_zero] at s1 s2
      have zok : FOk .f32 (some 0) := (Dy.zero .f32 (s := 0) (by decide)).fok
      have sok := sumF_ok L zok
      have es : i_SumNumbers L = some (sumF L (some 0), true) := by
        unfold i_SumNumbers i_isShort_float32 i_sum
        rw [obind_eq, decide_eq_true (by omega), bsel_true, s2]; rfl
      have et : i_NumbersText L = some (mkS (txtF L), true) := by
        unfold i_NumbersText i_isShort_float32
        rw [obind_eq, decide_eq_true (by omega), bsel_true, i_ntext_eq (by omega) hb, obind_eq]
      rw [bsel_false, ex, obind_eq, ey, obind_eq, (bits_eq hx).2.1, obind_eq, fromBits_eq hx, obind2_eq, ez, obind_eq, ev, obind_eq, eL, obind_eq, s1]
      simp only [obind_eq, osum]
      unfold w_FnNumbers_k1
      rw [es, obind2_eq, et, obind2_eq, numbersBack (by omega) hb, obind2_eq]
      simp only [bsel_true]
      unfold s_SameNumber
      rw [s_l01Same_eq hx hx, obind_eq, obind_eq, decide_eq_true rfl, bsel_true, isSub_eq, obind_eq, sz, bsel_false, isSub_eq, obind_eq, s_l01Same_eq hx hz, obind_eq, obind_eq]
      have hne : (subn x == decide (x = z)) = false := by
        rw [beq_eq_false_iff_ne]
        exact fun e => sxz.mp e
      rw [hne, bsel_false, s_l01Same_eq sok sok, obind_eq, obind_eq, decide_eq_true rfl, bsel_true, decide_true, Bool.not_true, bsel_false]
      unfold w_FnNumbers_k5
      rw [same_loop (by omega) hb]
      simp only [obind_eq, osum]
      exact num_k6 hx hy


end Go.Proofs.YtcjbfpoaidjpaaaGreatDoor
