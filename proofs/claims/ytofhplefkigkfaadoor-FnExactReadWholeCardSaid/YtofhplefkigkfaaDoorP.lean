/- The plain law of FnExactReadWhole. -/
import Derived.Test.YtofhplefkigkfaaDoorG1
namespace Go.Proofs.YtofhplefkigkfaaDoor
set_option linter.unusedSimpArgs false
set_option linter.unusedVariables false
open Go Go.AM
theorem w_eqInt64S_refl (a : List Int) (h : a.length ≤ 1048576) : w_eqInt64S a a = some true := by
  unfold w_eqInt64S
  rw [loop_eq (l := a) (m := a) rfl ?_ ?_]
  · simp [bsel_if, w_eqInt64S_k1]
  · intro v x y h0 hv hx hy
    rw [hx] at hy; cases hy
    show w_eqInt64S_b1 a a v = _
    unfold w_eqInt64S_b1
    rw [at?_of h0 hx, wrap_succ h0 hv (by omega)]
    simp [bsel_if, hv]
  · show w_eqInt64S_b1 a a (a.length : Int) = _
    unfold w_eqInt64S_b1
    simp [bsel_if]
def FOks (l : List F) : Prop := ∀ c ∈ l, FOk .f32 c
theorem FOks.at {l : List F} (h : FOks l) {i : Nat} {c : F} (e : l[i]? = some c) : FOk .f32 c := h c (List.mem_of_getElem? e)
theorem s_l00In_eq (n lo hi : Int) : s_l00In n lo hi = some (decide (lo ≤ n) && decide (n ≤ hi)) := by
  unfold s_l00In; cases decide (lo ≤ n) <;> rfl
theorem i_inRange_eq (n lo hi : Int) : i_inRange n lo hi = some (decide (lo ≤ n) && decide (n ≤ hi)) := by
  unfold i_inRange; cases decide (lo ≤ n) <;> rfl
theorem any_not {α : Type} (l : List α) (p : α → Bool) : l.any (fun x => !p x) = !l.all p := by
  induction l with
  | nil => rfl
  | cons a l ih => simp [ih]
def inR (lo hi n : Int) : Bool := decide (lo ≤ n) && decide (n ≤ hi)
theorem s_l06Bound_eq {a : List Int} (sa : a.length ≤ 1048576) : s_l06Bound a 1000000 = some (a.all (inR (-1000000) 1000000)) := by
  unfold s_l06Bound
  rw [loop_all (l := a) (p := inR (-1000000) 1000000) false ?_ ?_]
  · cases h : a.all (inR (-1000000) 1000000) <;> simp [s_l06Bound_k1]
  · intro v x h0 hv hx
    show s_l06Bound_b1 a 1000000 v = _
    unfold s_l06Bound_b1
    rw [at?_of h0 hx, wrap_succ h0 hv (by omega), wrap_i64 (by omega) (by omega)]
    simp only [obind_eq, olet_eq, s_l00In_eq, hv, decide_true, bsel_if]
    rfl
  · show s_l06Bound_b1 a 1000000 (a.length : Int) = _
    unfold s_l06Bound_b1
    simp [bsel_if]
theorem i_allIn_eq {a : List Int} (sa : a.length ≤ 1048576) (lo hi : Int) : i_allIn a lo hi = some (a.all (inR lo hi)) := by
  unfold i_allIn x_slices_ContainsFunc_int64_int64_1Fi_allIn_1 x_slices_IndexFunc_int64_int64_1Fi_allIn_1
  obtain ⟨r, h1, h2⟩ := loop_find (l := a) (p := fun c => !inR lo hi c) (step := x_slices_IndexFunc_int64_int64_1Fi_allIn_1_s1 a lo hi) (by
    intro v x h0 hv hx
    show x_slices_IndexFunc_int64_int64_1Fi_allIn_1_b1 a lo hi v = _
    unfold x_slices_IndexFunc_int64_int64_1Fi_allIn_1_b1
    rw [at?_of h0 hx, wrap_succ h0 hv (by omega)]
    simp only [obind_eq, olet_eq, i_allIn_1, i_inRange_eq, hv, decide_true, bsel_if]
    rfl) (by
    show x_slices_IndexFunc_int64_int64_1Fi_allIn_1_b1 a lo hi (a.length : Int) = _
    unfold x_slices_IndexFunc_int64_int64_1Fi_allIn_1_b1
    simp [bsel_if])
  rw [h1, any_not]
  cases h : a.all (inR lo hi) <;> simp [x_slices_IndexFunc_int64_int64_1Fi_allIn_1_k1, h2]
def marks (k : Int) (n : Nat) : List F := (List.range n).map fun (i : Nat) => fint .f32 (k + (i : Int))
def marksI (k : Int) (n : Nat) : List Int := (List.range n).map fun (i : Nat) => k + (i : Int)
theorem marks_len (k : Int) (n : Nat) : (marks k n).length = n := by simp [marks]
theorem marksI_len (k : Int) (n : Nat) : (marksI k n).length = n := by simp [marksI]
theorem loop_mark {α ρ : Type} (mk : Int → α) (k : Int) (n : Nat) {step : List α × Int × Int → Option (LR (List α × Int × Int) (List α × Int) ρ)}
    (hstep : ∀ (L : List α) (i : Nat), i < n → L.length = n → step (L, k + (i : Int), (i : Int)) = some (.next (L.set i (mk (k + (i : Int))), k + ((i + 1 : Nat) : Int), ((i + 1 : Nat) : Int))))
    (hend : ∀ L : List α, L.length = n → step (L, k + (n : Int), (n : Int)) = some (.out (L, k + (n : Int)))) (a : List α) (ha : a.length = n) :
    loopM step (a, k, 0) = some (.inl ((List.range n).map (fun (i : Nat) => mk (k + (i : Int))), k + (n : Int))) := by
  have key : ∀ (m i : Nat) (L : List α), m + i = n → L.length = n → L.take i = (List.range i).map (fun (i : Nat) => mk (k + (i : Int))) → loopM step (L, k + (i : Int), (i : Int)) = some (.inl ((List.range n).map (fun (i : Nat) => mk (k + (i : Int))), k + (n : Int))) := by
    intro m
    induction m with
    | zero =>
      intro i L hi hL ht
      have : i = n := by omega
      subst this
      rw [loopM_out (hend L hL), ← ht, ← hL, List.take_length]
    | succ m ih =>
      intro i L hi hL ht
      rw [loopM_next (hstep L i (by omega) hL)]
      refine ih (i + 1) _ (by omega) (by simpa using hL) ?_
      rw [List.take_succ_eq_append_getElem (by simp; omega), List.take_set_of_le (Nat.le_refl _), ht, List.range_succ, List.map_append]
      simp
  have := key n 0 a (by omega) ha (by simp)
  simpa using this
theorem w_markInt64S_0o_eq (k : Int) (a : List Int) (h0 : -1000000000 ≤ k) (h1 : k ≤ 1000000000) (ha : a.length ≤ 1048576) : w_markInt64S_0o k a = some (k + (a.length : Int), marksI k a.length) := by
  unfold w_markInt64S_0o
  rw [loop_mark (fun n => n) k a.length (step := w_markInt64S_0o_s1 a) ?_ ?_ a rfl]
  · rfl
  · intro L i hi hL
    show w_markInt64S_0o_b1 a L (k + (i : Int)) (i : Int) = _
    unfold w_markInt64S_0o_b1
    have hs := setAt?_of (l := L) (v := (i : Int)) (x := k + (i : Int)) (by omega) (by omega)
    have e1 : IntKind.i64.wrap (k + (i : Int) + 1) = k + ((i + 1 : Nat) : Int) := by rw [wrap_i64 (by omega) (by omega)]; omega
    have e2 : IntKind.i64.wrap ((i : Int) + 1) = ((i + 1 : Nat) : Int) := by rw [wrap_i64 (by omega) (by omega)]; omega
    simp only [olet_eq, hs, obind_eq, e1, e2, bsel_if, decide_eq_true_eq]
    rw [if_pos (by omega)]
    rfl
  · intro L hL
    show w_markInt64S_0o_b1 a L (k + (a.length : Int)) (a.length : Int) = _
    unfold w_markInt64S_0o_b1
    simp [bsel_if]
theorem loop_held {k : Int} {n : Nat} {step : Int × Int → Option (LR (Int × Int) Int Int)}
    (hstep : ∀ i : Nat, i < n → step (k + (i : Int), (i : Int)) = some (.next (k + ((i + 1 : Nat) : Int), ((i + 1 : Nat) : Int)))) (hend : step (k + (n : Int), (n : Int)) = some (.out (k + (n : Int)))) :
    loopM step (k, 0) = some (.inl (k + (n : Int))) := by
  have key : ∀ (m i : Nat), m + i = n → loopM step (k + (i : Int), (i : Int)) = some (.inl (k + (n : Int))) := by
    intro m
    induction m with
    | zero => intro i hi; have : i = n := by omega
              subst this; exact loopM_out hend
    | succ m ih => intro i hi; rw [loopM_next (hstep i (by omega))]; exact ih (i + 1) (by omega)
  have := key n 0 (by omega)
  simpa using this
theorem w_heldInt64S_eq (k : Int) (n : Nat) (h0 : -1000000000 ≤ k) (h1 : k ≤ 1000000000) (hn : n ≤ 1048576) : w_heldInt64S (marksI k n) k = some (k + (n : Int)) := by
  unfold w_heldInt64S
  rw [loop_held (k := k) (n := n) (step := w_heldInt64S_s1 (marksI k n)) ?_ ?_]
  · rfl
  · intro i hi
    show w_heldInt64S_b1 (marksI k n) (k + (i : Int)) (i : Int) = _
    unfold w_heldInt64S_b1
    have hx : (marksI k n)[(i : Int).toNat]? = some (k + (i : Int)) := by simp [marksI, hi]
    have e1 : IntKind.i64.wrap (k + (i : Int) + 1) = k + ((i + 1 : Nat) : Int) := by rw [wrap_i64 (by omega) (by omega)]; omega
    have e2 : IntKind.i64.wrap ((i : Int) + 1) = ((i + 1 : Nat) : Int) := by rw [wrap_i64 (by omega) (by omega)]; omega
    rw [at?_of (by omega) hx]
    simp only [olet_eq, obind_eq, e1, e2, bsel_if, decide_eq_true_eq, marksI_len]
    rw [if_pos (by omega)]
    simp
  · show w_heldInt64S_b1 (marksI k n) (k + (n : Int)) (n : Int) = _
    unfold w_heldInt64S_b1
    simp [bsel_if, marksI_len]
abbrev q1 : List F := [some 1073741824, some 1065353216, some 1065353216, some 1073741824]
theorem FOks.getD {l : List F} (h : FOks l) (n : Nat) : FOk .f32 (l.getD n none) := by
  simp only [List.getD]
  cases e : l[n]? with
  | none => exact fok_none _
  | some c => exact h.at e
theorem FOks.set {l : List F} (h : FOks l) {n : Nat} {x : F} (hx : FOk .f32 x) : FOks (l.set n x) := by
  intro c hc
  rcases List.mem_or_eq_of_mem_set hc with h1 | h1
  · exact h c h1
  · exact h1 ▸ hx
abbrev gI (l : List Int) (i : Nat) : Int := l.getD i 0
structure SpIn (S : Nat) (a1 a2 : List Int) : Prop where
  S1 : 1 ≤ S
  S2 : S ≤ 32
  l1 : a1.length = S + 1
  l2 : a2.length ≤ 512
  z : gI a1 0 = 0
  e : gI a1 S = (a2.length : Int)
structure SpGood (S : Nat) (a1 a2 : List Int) : Prop where
  s : ∀ i, i < S → gI a1 i ≤ gI a1 (i + 1)
  c : ∀ k, k < a2.length → 0 ≤ gI a2 k ∧ gI a2 k ≤ (S : Int) - 1
  o : ∀ i, i < S → ∀ k : Nat, gI a1 i < (k : Int) → (k : Int) < gI a1 (i + 1) → gI a2 (k - 1) < gI a2 k
theorem SpGood.mono {S : Nat} {a1 a2 : List Int} (h : SpGood S a1 a2) : ∀ (d i : Nat), i + d ≤ S → gI a1 i ≤ gI a1 (i + d)
  | 0, i, _ => Int.le_refl _
  | d + 1, i, hd => Int.le_trans (h.mono d i (by omega)) (h.s (i + d) (by omega))
theorem SpGood.lo {S : Nat} {a1 a2 : List Int} (h : SpGood S a1 a2) (i0 : SpIn S a1 a2) {i : Nat} (hi : i ≤ S) : 0 ≤ gI a1 i ∧ gI a1 i ≤ (a2.length : Int) := by
  have h1 := h.mono i 0 (by omega)
  have h2 := h.mono (S - i) i (by omega)
  rw [Nat.zero_add, i0.z] at h1
  rw [show i + (S - i) = S by omega, i0.e] at h2
  exact ⟨h1, h2⟩
structure SpOk (S : Nat) (a1 a2 : List Int) (a3 : List F) : Prop where
  i : SpIn S a1 a2
  g : SpGood S a1 a2
  l : a3.length = a2.length
theorem SpOk.row {S : Nat} {a1 a2 : List Int} {a3 : List F} (h : SpOk S a1 a2 a3) {i : Nat} (hi : i < S) : 0 ≤ gI a1 i ∧ gI a1 i ≤ gI a1 (i + 1) ∧ gI a1 (i + 1) ≤ (a2.length : Int) :=
  ⟨(h.g.lo h.i (by omega)).1, h.g.s i hi, (h.g.lo h.i (i := i + 1) (by omega)).2⟩
def loK (a1 : List Int) (i : Nat) : Nat := (gI a1 i).toNat
def laK (a1 : List Int) (i : Nat) : Nat := (gI a1 (i + 1)).toNat - 1
structure Root (S : Nat) (a1 a2 : List Int) (a3 : List F) : Prop where
  ok : SpOk S a1 a2 a3
  low : ∀ i, i < S → gI a1 i ≤ gI a1 (i + 1) - 1 ∧ gI a2 (laK a1 i) = (i : Int)
theorem Root.at {S : Nat} {a1 a2 : List Int} {a3 : List F} (h : Root S a1 a2 a3) {i : Nat} (hi : i < S) : loK a1 i ≤ laK a1 i ∧ laK a1 i < a2.length ∧ ((laK a1 i : Nat) : Int) = gI a1 (i + 1) - 1 ∧ ((loK a1 i : Nat) : Int) = gI a1 i := by
  obtain ⟨r1, r2, r3⟩ := h.ok.row hi
  obtain ⟨q1, _⟩ := h.low i hi
  unfold loK laK
  omega
def vget (v : List F) (x : Int) : F := v.getD x.toNat none
def Names (n : Nat) (L : List Int) : Prop := ∀ x ∈ L, 0 ≤ x ∧ x < (n : Int)
theorem Names.at {n : Nat} {L : List Int} (h : Names n L) {j : Nat} (hj : j < L.length) : 0 ≤ L.getD j 0 ∧ L.getD j 0 < (n : Int) := by
  rw [List.getD_eq_getElem?_getD, List.getElem?_eq_getElem hj]
  exact h _ (List.getElem_mem hj)
theorem Names.set {n : Nat} {L : List Int} (h : Names n L) {j : Nat} {x : Int} (hx : 0 ≤ x ∧ x < (n : Int)) : Names n (L.set j x) := fun y hy => (List.mem_or_eq_of_mem_set hy).elim (fun k => h y k) (fun k => by rw [k]; exact hx)
theorem vget_mem {v : List F} {x : Int} (h0 : 0 ≤ x) (h1 : x < (v.length : Int)) : vget v x ∈ v := by
  unfold vget
  rw [List.getD_eq_getElem?_getD, List.getElem?_eq_getElem (by omega)]
  exact List.getElem_mem _
def wkey (c : F) : Nat := c.getD 0
def sqW (v : List F) (x : Int) : Nat := wkey (vget v x)
def SqOk (v : List F) : Prop := ∀ c ∈ v, ∃ b, c = some b ∧ b ≤ 2139095040
theorem SqOk.at {v : List F} (h : SqOk v) {x : Int} (h0 : 0 ≤ x) (h1 : x < (v.length : Int)) : vget v x = some (sqW v x) ∧ sqW v x ≤ 2139095040 := by
  obtain ⟨b, e, hb⟩ := h _ (vget_mem h0 h1)
  unfold sqW
  rw [e]; exact ⟨rfl, hb⟩
def mkS (l : List UInt8) : ByteArray := ⟨l.toArray⟩
def byt (s : ByteArray) : List UInt8 := s.data.toList
theorem byt_mk (l : List UInt8) : byt (mkS l) = l := by simp [byt, mkS]
theorem mk_byt (s : ByteArray) : mkS (byt s) = s := Go.Lib.mk_data s
theorem siz (s : ByteArray) : s.size = (byt s).length := Go.Lib.size_eq s
theorem subs_mk {s : ByteArray} {i j : Nat} (h : i ≤ j) (h2 : j ≤ (byt s).length) : subs? s (i : Int) (j : Int) = some (mkS (((byt s).drop i).take (j - i))) := by
  unfold subs?
  rw [if_pos ⟨by omega, by omega, by rw [siz]; omega⟩]
  exact congrArg some (Go.Lib.extract_eq s i j)
theorem sat_mk {s : ByteArray} {i : Nat} {b : UInt8} (h : (byt s)[i]? = some b) : sat? s (i : Int) = some (b.toNat : Int) := by
  unfold sat?
  rw [if_pos (by omega)]
  have hi : i < s.size := by rw [siz]; exact (List.getElem?_eq_some_iff.1 h).1
  have e : s[(i : Int).toNat]? = some b := by
    rw [show (i : Int).toNat = i from by omega, getElem?_pos s i hi]
    have this : s.data.toList[i]? = some s[i] := by
      rw [Array.getElem?_toList]; exact getElem?_pos s.data i hi
    rw [show s.data.toList[i]? = some b from h] at this
    exact this.symm
  rw [e]; rfl
theorem eqs_iff {s t : ByteArray} : eqs s t = decide (byt s = byt t) := by
  unfold eqs byt
  rw [Bool.eq_iff_iff]; simp only [beq_iff_eq, decide_eq_true_eq]
def cutL (c : UInt8) : List UInt8 → List (List UInt8)
  | [] => [[]]
  | b :: l => if b = c then [] :: cutL c l else match cutL c l with
    | [] => [[b]]
    | h :: t => (b :: h) :: t
theorem cutL_none {c : UInt8} : ∀ {p : List UInt8}, c ∉ p → cutL c p = [p]
  | [], _ => rfl
  | b :: l, h => by
    have hb : b ≠ c := fun e => h (by simp [e])
    have hl : c ∉ l := fun e => h (by simp [e])
    unfold cutL
    rw [if_neg hb, cutL_none hl]
theorem cutL_hit {c : UInt8} {q : List UInt8} : ∀ {p : List UInt8}, c ∉ p → cutL c (p ++ c :: q) = p :: cutL c q
  | [], _ => by
    show cutL c (c :: q) = _
    conv => lhs; unfold cutL
    rw [if_pos rfl]
  | b :: l, h => by
    have hb : b ≠ c := fun e => h (by simp [e])
    have hl : c ∉ l := fun e => h (by simp [e])
    show cutL c (b :: (l ++ c :: q)) = _
    conv => lhs; unfold cutL
    rw [if_neg hb, cutL_hit hl]
theorem cutL_len {c : UInt8} : ∀ {l : List UInt8}, (cutL c l).length = l.count c + 1
  | [] => rfl
  | b :: l => by
    have ih := cutL_len (c := c) (l := l)
    unfold cutL
    by_cases hb : b = c
    · rw [if_pos hb, List.length_cons, ih, hb, List.count_cons_self]
    · rw [if_neg hb, List.count_cons_of_ne hb, ← ih]
      cases h : cutL c l with
      | nil => rw [h] at ih; simp at ih
      | cons x y => rfl
theorem idx_hit {c : UInt8} : ∀ {l : List UInt8}, c ∈ l → ∃ p q, l = p ++ c :: q ∧ c ∉ p ∧ Go.Lib.indexByte l c = (p.length : Int)
  | [], h => by simp at h
  | b :: l, h => by
    by_cases hb : b = c
    · exact ⟨[], l, by simp [hb], by simp, by unfold Go.Lib.indexByte; rw [if_pos (by simp [hb])]; rfl⟩
    · have hl : c ∈ l := by rcases List.mem_cons.1 h with e | e; exact absurd e.symm hb; exact e
      obtain ⟨p, q, e1, e2, e3⟩ := idx_hit hl
      refine ⟨b :: p, q, by simp [e1], by simp [e2, Ne.symm hb], ?_⟩
      unfold Go.Lib.indexByte
      rw [if_neg (by simp [hb]), e3, if_neg (by simp)]; simp
theorem idx_miss {c : UInt8} : ∀ {l : List UInt8}, c ∉ l → Go.Lib.indexByte l c = -1
  | [], _ => rfl
  | b :: l, h => by
    have hb : b ≠ c := fun e => h (by simp [e])
    have hl : c ∉ l := fun e => h (by simp [e])
    unfold Go.Lib.indexByte
    rw [if_neg (by simp [hb]), idx_miss hl]; rfl
theorem wi64 {n : Int} (h0 : -9000000000000000000 ≤ n) (h1 : n ≤ 9000000000000000000) : IntKind.i64.wrap n = n := wrap_i64 (by omega) (by omega)
theorem bytePiece {l : List UInt8} {i j : Nat} {b : UInt8} (hij : i ≤ j) (h : l[j]? = some b) : (l.drop i).take (j + 1 - i) = (l.drop i).take (j - i) ++ [b] := by
  rw [show j + 1 - i = (j - i) + 1 from by omega, List.take_add_one, List.getElem?_drop, show i + (j - i) = j from by omega, h]; rfl
theorem pieceDrop {l : List UInt8} {i j : Nat} (hij : i ≤ j) : l.drop i = (l.drop i).take (j - i) ++ l.drop j := by
  have := List.take_append_drop (j - i) (l.drop i)
  rw [List.drop_drop, show i + (j - i) = j from by omega] at this
  exact this.symm
theorem cut_loop {a0 : ByteArray} {c : UInt8} (hn : (byt a0).length ≤ 2000000) : ∀ (k i j : Nat) (L : List ByteArray), j + k = (byt a0).length → i ≤ j → L.length ≤ j → c ∉ ((byt a0).drop i).take (j - i) →
    loopM (s_l01Cut_s3 a0 (c.toNat : Int)) (L, (i : Int), (j : Int)) = some (.inl (L ++ (cutL c ((byt a0).drop i)).map mkS))
  | 0, i, j, L, hj, hij, hL, hc => by
    have ap : apok 16 L.length 1 = true := by simp only [apok, Bool.and_eq_true, decide_eq_true_eq]; omega
    have e : s_l01Cut_s3 a0 (c.toNat : Int) (L, (i : Int), (j : Int)) = some (.next (L ++ [mkS (((byt a0).drop i).take (j - i))], (j : Int) + 1, (j : Int) + 1)) := by
      show s_l01Cut_b3 a0 (c.toNat : Int) L (i : Int) (j : Int) = _
      unfold s_l01Cut_b3 s_l01Cut_k2
      rw [siz, decide_eq_true (by omega), bsel_true, decide_eq_true (by omega), bsel_true, subs_mk hij (by omega), obind_eq, ap, need_true]
      simp only [olet_eq]
      rw [wi64 (by omega) (by omega)]
    rw [loopM_next e, loopM_out (e := L ++ [mkS (((byt a0).drop i).take (j - i))])]
    · have hd : (byt a0).drop i = ((byt a0).drop i).take (j - i) := (List.take_of_length_le (by rw [List.length_drop]; omega)).symm
      have hc' : c ∉ (byt a0).drop i := by rw [hd]; exact hc
      rw [cutL_none hc', ← hd]; rfl
    · show s_l01Cut_b3 a0 (c.toNat : Int) _ ((j : Int) + 1) ((j : Int) + 1) = _
      unfold s_l01Cut_b3
      rw [siz, decide_eq_false (by omega), bsel_false]
  | k + 1, i, j, L, hj, hij, hL, hc => by
    have ap : apok 16 L.length 1 = true := by simp only [apok, Bool.and_eq_true, decide_eq_true_eq]; omega
    have hlt : j < (byt a0).length := by omega
    obtain ⟨b, hb⟩ : ∃ b, (byt a0)[j]? = some b := ⟨_, List.getElem?_eq_getElem hlt⟩
    by_cases hbc : b = c
    · have e : s_l01Cut_s3 a0 (c.toNat : Int) (L, (i : Int), (j : Int)) = some (.next (L ++ [mkS (((byt a0).drop i).take (j - i))], ((j + 1 : Nat) : Int), ((j + 1 : Nat) : Int))) := by
        show s_l01Cut_b3 a0 (c.toNat : Int) L (i : Int) (j : Int) = _
        unfold s_l01Cut_b3 s_l01Cut_k2
        rw [siz, decide_eq_true (by omega), bsel_true, decide_eq_false (by omega), bsel_false, sat_mk hb, obind_eq, hbc, decide_eq_true rfl, bsel_true, subs_mk hij (by omega), obind_eq, ap, need_true]
        simp only [olet_eq]
        rw [wi64 (by omega) (by omega)]; rfl
      rw [loopM_next e, cut_loop hn k (j + 1) (j + 1) _ (by omega) (Nat.le_refl _) (by simp; omega) (by simp)]
      have hd : (byt a0).drop i = ((byt a0).drop i).take (j - i) ++ c :: (byt a0).drop (j + 1) := by
        conv => lhs; rw [pieceDrop hij]
        rw [List.drop_eq_getElem_cons hlt]
        have : (byt a0)[j] = c := by rw [List.getElem?_eq_getElem hlt] at hb; rw [Option.some.inj hb, hbc]
        rw [this]
      conv => rhs; rw [hd, cutL_hit hc]
      simp
    · have hne : ¬ ((b.toNat : Int) = (c.toNat : Int)) := fun e => hbc (UInt8.toNat_inj.1 (by omega))
      have e : s_l01Cut_s3 a0 (c.toNat : Int) (L, (i : Int), (j : Int)) = some (.next (L, (i : Int), ((j + 1 : Nat) : Int))) := by
        show s_l01Cut_b3 a0 (c.toNat : Int) L (i : Int) (j : Int) = _
        unfold s_l01Cut_b3 s_l01Cut_k2
        rw [siz, decide_eq_true (by omega), bsel_true, decide_eq_false (by omega), bsel_false, sat_mk hb, obind_eq, decide_eq_false hne, bsel_false]
        simp only [olet_eq]
        rw [wi64 (by omega) (by omega)]; rfl
      rw [loopM_next e, cut_loop hn k i (j + 1) L (by omega) (by omega) (by omega) (by
        rw [bytePiece hij hb]
        simp only [List.mem_append, List.mem_singleton, not_or]
        exact ⟨hc, fun e => hbc e.symm⟩)]
theorem s_cut_eq {a0 : ByteArray} {c : UInt8} (hn : (byt a0).length ≤ 2000000) : s_l01Cut a0 (c.toNat : Int) = some ((cutL c (byt a0)).map mkS) := by
  unfold s_l01Cut
  have e := cut_loop (c := c) hn (byt a0).length 0 0 [] (by omega) (Nat.le_refl _) (Nat.le_refl _) (by simp)
  have e : loopM (s_l01Cut_s3 a0 (c.toNat : Int)) ([], 0, 0) = some (.inl ([] ++ (cutL c ((byt a0).drop 0)).map mkS)) := e
  rw [e]; rfl
theorem natAbs_digit (v : Int) (hv : v.natAbs ≤ 9223372036854775808) : (v.tmod 10 < 0 → IntKind.i64.wrap (0 - v.tmod 10) = ((v.natAbs % 10 : Nat) : Int)) ∧ (¬ v.tmod 10 < 0 → v.tmod 10 = ((v.natAbs % 10 : Nat) : Int)) := by
  have h : (v.tmod 10).natAbs = v.natAbs % 10 := Int.natAbs_tmod v 10
  have h9 : v.natAbs % 10 < 10 := Nat.mod_lt _ (by decide)
  constructor
  · intro hn
    rw [wi64 (by omega) (by omega)]; omega
  · intro hn; omega
theorem natAbs_next (v : Int) : (v.tdiv 10).natAbs = v.natAbs / 10 := Int.natAbs_tdiv v 10
theorem u8_wrap {n : Int} (h0 : 0 ≤ n) (h1 : n < 256) : IntKind.u8.wrap n = n := by
  simp only [IntKind.wrap, IntKind.bits, IntKind.signed]
  simp
  omega
def decI (u : Nat) : List Int := (Go.Lib.decDigits u).map fun b => (b.toNat : Int)
def digI (u : Nat) : List Int := if u = 0 then [] else decI u
theorem decI_small {u : Nat} (h : u < 10) : decI u = [((48 + u : Nat) : Int)] := by
  unfold decI
  rw [Go.Lib.decDigits, dif_pos h]
  have : (UInt8.ofNat (48 + u)).toNat = 48 + u := by simp; omega
  show [((UInt8.ofNat (48 + u)).toNat : Int)] = _
  rw [this]
theorem decI_big {u : Nat} (h : ¬ u < 10) : decI u = decI (u / 10) ++ [((48 + u % 10 : Nat) : Int)] := by
  unfold decI
  conv => lhs; rw [Go.Lib.decDigits, dif_neg h]
  have : (UInt8.ofNat (48 + u % 10)).toNat = 48 + u % 10 := by simp; omega
  rw [List.map_append]
  show _ ++ [((UInt8.ofNat (48 + u % 10)).toNat : Int)] = _
  rw [this]
theorem digI_step {u : Nat} : decI u = digI (u / 10) ++ [((48 + u % 10 : Nat) : Int)] := by
  by_cases h : u < 10
  · rw [decI_small h, show u / 10 = 0 from by omega, show u % 10 = u from by omega]; rfl
  · rw [decI_big h]
    unfold digI
    rw [if_neg (by omega)]
theorem dec_step {l : List Int} {v : Int} (hl : l.length ≤ 100) (hv : v.natAbs ≤ 9223372036854775808) : s_l01Dec_k5 l v = some (.next (((48 + v.natAbs % 10 : Nat) : Int) :: l, v.tdiv 10)) := by
  obtain ⟨d1, d2⟩ := natAbs_digit v hv
  have h9 : v.natAbs % 10 < 10 := Nat.mod_lt _ (by decide)
  have hn := natAbs_next v
  have key : s_l01Dec_k6 l v ((v.natAbs % 10 : Nat) : Int) = some (.next (((48 + v.natAbs % 10 : Nat) : Int) :: l, v.tdiv 10)) := by
    unfold s_l01Dec_k6
    simp only [olet_eq]
    rw [wi64 (n := 48 + ((v.natAbs % 10 : Nat) : Int)) (by omega) (by omega), u8_wrap (by omega) (by omega), show apok 1 1 l.length = true from by simp only [apok, Bool.and_eq_true, decide_eq_true_eq]; omega, need_true, show (!decide (10 = 0)) = true from rfl, need_true, wi64 (by omega) (by omega)]
    simp
  unfold s_l01Dec_k5
  rw [show (!decide (10 = 0)) = true from rfl, need_true]
  simp only [olet_eq]
  by_cases h : v.tmod 10 < 0
  · rw [decide_eq_true h, bsel_true, d1 h, key]
  · rw [decide_eq_false h, bsel_false, d2 h, key]
theorem dec_loop : ∀ (k : Nat) (v : Int) (l : List Int), v.natAbs < 10 ^ k → v.natAbs ≤ 9223372036854775808 → 0 < l.length → l.length + k ≤ 100 → loopM s_l01Dec_s7 (l, v) = some (.inl (digI v.natAbs ++ l))
  | 0, v, l, h, _, hl, hk => by
    have hv : v.natAbs = 0 := by simpa using h
    have hv0 : v = 0 := by omega
    rw [loopM_out (e := l)]
    · rw [hv]; rfl
    · show s_l01Dec_b7 l v = _
      unfold s_l01Dec_b7
      rw [decide_eq_false (by omega), bsel_false, hv0]; rfl
  | k + 1, v, l, h, h64, hl, hk => by
    by_cases hv0 : v = 0
    · subst hv0
      rw [loopM_out (e := l)]
      · rfl
      · show s_l01Dec_b7 l 0 = _
        unfold s_l01Dec_b7
        rw [decide_eq_false (by omega), bsel_false]; rfl
    · have e : s_l01Dec_s7 (l, v) = some (.next (((48 + v.natAbs % 10 : Nat) : Int) :: l, v.tdiv 10)) := by
        show s_l01Dec_b7 l v = _
        unfold s_l01Dec_b7
        rw [decide_eq_false (by omega), bsel_false, decide_eq_false hv0, Bool.not_false, bsel_true, dec_step (by omega) h64]
      rw [loopM_next e, dec_loop k _ _ (by rw [natAbs_next]; rw [Nat.pow_succ] at h; omega) (by rw [natAbs_next]; omega) (by simp) (by simp; omega), natAbs_next]
      have : digI v.natAbs = decI v.natAbs := by unfold digI; rw [if_neg (by omega)]
      rw [this, digI_step]; simp
theorem str_decI (u : Nat) : (decI u).map (fun n => UInt8.ofNat n.toNat) = Go.Lib.decDigits u := by
  unfold decI
  rw [List.map_map]
  conv => rhs; rw [← List.map_id (Go.Lib.decDigits u)]
  exact List.map_congr_left fun b _ => by simp
theorem decI_len (u : Nat) (h : u < 10 ^ 20) : (decI u).length ≤ 20 := by
  have key : ∀ (k u : Nat), u < 10 ^ (k + 1) → (decI u).length ≤ k + 1 := by
    intro k
    induction k with
    | zero => intro u h; rw [decI_small (by simpa using h)]; simp
    | succ k ih =>
      intro u h
      by_cases hs : u < 10
      · rw [decI_small hs]; simp
      · rw [decI_big hs]
        have := ih (u / 10) (by rw [Nat.pow_succ] at h; omega)
        simp; omega
  exact key 19 u h
theorem s_dec_eq {n : Int} (h : n.natAbs ≤ 9223372036854775808) : s_l01Dec n = some (mkS (Go.Lib.itoa n)) := by
  have h20 : n.natAbs < 10 ^ 20 := by have : (9223372036854775808 : Nat) < 10 ^ 20 := by decide
                                      omega
  have e : s_l01Dec_s7 ([], n) = some (.next ([((48 + n.natAbs % 10 : Nat) : Int)], n.tdiv 10)) := by
    show s_l01Dec_b7 [] n = _
    unfold s_l01Dec_b7
    rw [show decide ((([] : List Int).length : Int) = 0) = true from rfl, bsel_true, dec_step (by simp) h]
  have l2 : loopM s_l01Dec_s7 ([], n) = some (.inl (decI n.natAbs)) := by
    rw [loopM_next e, dec_loop 20 _ _ (by rw [natAbs_next]; omega) (by rw [natAbs_next]; omega) (by simp) (by simp), natAbs_next, digI_step]
  have hd := decI_len n.natAbs h20
  unfold s_l01Dec
  rw [l2]
  show s_l01Dec_k7 n (decI n.natAbs) = _
  unfold s_l01Dec_k7 s_l01Dec_k8
  by_cases hn : n < 0
  · rw [decide_eq_true hn, bsel_true, show apok 1 1 (decI n.natAbs).length = true from by simp only [apok, Bool.and_eq_true, decide_eq_true_eq]; omega, need_true]
    unfold Go.Lib.itoa
    rw [if_pos hn]
    unfold strOfNums mkS
    rw [List.map_append, str_decI]; rfl
  · rw [decide_eq_false hn, bsel_false]
    unfold Go.Lib.itoa
    rw [if_neg hn]
    unfold strOfNums mkS
    rw [str_decI, show n.natAbs = n.toNat from by omega]
theorem i_dec_eq {n : Int} (h0 : -9223372036854775808 ≤ n) (h1 : n ≤ 9223372036854775807) : i_Decimal n = some (mkS (Go.Lib.itoa n)) := by
  unfold i_Decimal x_strconv_FormatInt
  rw [show decide ((10 : Int) = 10) = true from rfl, need_true, decide_eq_true h0, need_true, decide_eq_true h1, need_true]; rfl
theorem idx_at {c : UInt8} {q : List UInt8} : ∀ {p : List UInt8}, c ∉ p → Go.Lib.indexByte (p ++ c :: q) c = (p.length : Int)
  | [], _ => by
    show Go.Lib.indexByte (c :: q) c = _
    unfold Go.Lib.indexByte
    rw [if_pos (by simp)]; rfl
  | b :: l, h => by
    have hb : b ≠ c := fun e => h (by simp [e])
    have hl : c ∉ l := fun e => h (by simp [e])
    show Go.Lib.indexByte (b :: (l ++ c :: q)) c = _
    unfold Go.Lib.indexByte
    rw [if_neg (by simp [hb]), idx_at hl, if_neg (by simp)]; simp
theorem x_index_one {s sep : ByteArray} {b : UInt8} (h1 : byt sep = [b]) : x_internal_stringslite_Index s sep = some (Go.Lib.indexByte (byt s) b) := by
  have hz : (sep.size : Int) = 1 := by rw [siz, h1]; rfl
  unfold x_internal_stringslite_Index
  rw [hz, decide_eq_false (by omega), bsel_false, eqs_iff]
  by_cases h : byt sep = byt s
  · rw [decide_eq_true h, bsel_true, ← h, h1]
    have := idx_at (c := b) (q := []) (p := []) (by simp)
    exact congrArg some this.symm
  · rw [decide_eq_false h, bsel_false, decide_eq_true rfl, bsel_true]
    have hs : sat? sep 0 = some (b.toNat : Int) := sat_mk (i := 0) (by rw [h1]; rfl)
    rw [hs, obind_eq]
    unfold x_internal_stringslite_IndexByte idxB
    rw [obind_eq, show ((b.toNat : Int)).toNat.toUInt8 = b from by simp]; rfl
theorem cut_hit {s sep : ByteArray} {b : UInt8} (h1 : byt sep = [b]) {p q : List UInt8} (e : byt s = p ++ b :: q) (hp : b ∉ p) (hs : (byt s).length ≤ 3000000) : x_strings_Cut s sep = some (mkS p, mkS q, true) := by
  have hl : (byt s).length = p.length + 1 + q.length := by rw [e]; simp; omega
  have hz : (sep.size : Int) = 1 := by rw [siz, h1]; rfl
  have k1 : subs? s 0 ((p.length : Nat) : Int) = some (mkS p) := by
    have := subs_mk (s := s) (i := 0) (j := p.length) (by omega) (by omega)
    rw [show ((0 : Nat) : Int) = 0 from rfl] at this
    rw [this, List.drop_zero, e]; simp
  have k2 : subs? s ((p.length : Int) + 1) (s.size : Int) = some (mkS q) := by
    have := subs_mk (s := s) (i := p.length + 1) (j := (byt s).length) (by omega) (by omega)
    rw [siz, show ((p.length : Int) + 1) = ((p.length + 1 : Nat) : Int) from by omega, this, e]
    have d : (p ++ b :: q).drop (p.length + 1) = q := by simp [List.drop_append]
    rw [d, List.take_of_length_le (by simp; omega)]
  unfold x_strings_Cut x_internal_stringslite_Cut
  rw [x_index_one h1, obind_eq, e, idx_at hp, decide_eq_true (by omega), bsel_true, k1, obind_eq]
  simp only [olet_eq]
  rw [hz, wi64 (by omega) (by omega), k2, obind_eq, obind3_eq]
theorem cut_miss {s sep : ByteArray} {b : UInt8} (h1 : byt sep = [b]) (h : b ∉ byt s) : x_strings_Cut s sep = some (s, lit_99ba06bc, false) := by
  unfold x_strings_Cut x_internal_stringslite_Cut
  rw [x_index_one h1, obind_eq, idx_miss h, decide_eq_false (by omega), bsel_false, obind3_eq]
theorem has_split {c : UInt8} {l : List UInt8} (h : c ∈ l) : ∃ p q, l = p ++ c :: q ∧ c ∉ p := by
  obtain ⟨p, q, e1, e2, _⟩ := idx_hit h
  exact ⟨p, q, e1, e2⟩
theorem drop_at {α : Type} {l : List α} {j : Nat} {x : α} (h : l[j]? = some x) : l.drop j = x :: l.drop (j + 1) := by
  have hj := lt_of_getElem? h
  rw [List.drop_eq_getElem_cons hj]
  rw [List.getElem?_eq_getElem hj] at h
  rw [Option.some.inj h]
theorem dec_digits : ∀ (u : Nat) (b : UInt8), b ∈ Go.Lib.decDigits u → 48 ≤ b.toNat ∧ b.toNat ≤ 57 := by
  intro u
  induction u using Nat.strongRecOn with
  | ind u ih =>
    intro b hb
    rw [Go.Lib.decDigits] at hb
    by_cases h : u < 10
    · rw [dif_pos h] at hb
      have hb := List.mem_singleton.1 hb
      subst hb
      have : (UInt8.ofNat (48 + u)).toNat = 48 + u := by simp; omega
      omega
    · rw [dif_neg h] at hb
      rcases List.mem_append.1 hb with hb | hb
      · exact ih (u / 10) (by omega) b hb
      · have hb := List.mem_singleton.1 hb
        subst hb
        have : (UInt8.ofNat (48 + u % 10)).toNat = 48 + u % 10 := by simp; omega
        omega
theorem itoa_bytes {n : Int} {b : UInt8} (h : b ∈ Go.Lib.itoa n) : b.toNat = 45 ∨ (48 ≤ b.toNat ∧ b.toNat ≤ 57) := by
  unfold Go.Lib.itoa at h
  split at h
  · rcases List.mem_cons.1 h with e | e
    · subst e; left; rfl
    · exact .inr (dec_digits _ b e)
  · exact .inr (dec_digits _ b h)
theorem dec_ne (u : Nat) : Go.Lib.decDigits u ≠ [] := by
  rw [Go.Lib.decDigits]
  split <;> simp
theorem dec_length : ∀ (k u : Nat), u < 10 ^ (k + 1) → (Go.Lib.decDigits u).length ≤ k + 1
  | 0, u, h => by
    rw [Go.Lib.decDigits, dif_pos (by simpa using h)]; simp
  | k + 1, u, h => by
    rw [Go.Lib.decDigits]
    by_cases hs : u < 10
    · rw [dif_pos hs]; simp
    · rw [dif_neg hs]
      have := dec_length k (u / 10) (by rw [Nat.pow_succ] at h; omega)
      simp; omega
theorem parse_dec : ∀ (u : Nat) (r : List UInt8), u ≤ 10000000000000000 → Go.Lib.parseUintM (2 ^ 64 - 1) 0 (Go.Lib.decDigits u ++ r) = Go.Lib.parseUintM (2 ^ 64 - 1) u r := by
  intro u
  induction u using Nat.strongRecOn with
  | ind u ih =>
    intro r hu
    rw [Go.Lib.decDigits]
    by_cases h : u < 10
    · have e : (UInt8.ofNat (48 + u)).toNat = 48 + u := by simp; omega
      rw [dif_pos h]
      show Go.Lib.parseUintM (2 ^ 64 - 1) 0 (UInt8.ofNat (48 + u) :: r) = _
      conv => lhs; unfold Go.Lib.parseUintM
      rw [e, if_pos (by omega), if_neg (by omega), if_neg (by omega)]
      congr 1; omega
    · have e : (UInt8.ofNat (48 + u % 10)).toNat = 48 + u % 10 := by simp; omega
      rw [dif_neg h, List.append_assoc, ih (u / 10) (by omega) _ (by omega)]
      show Go.Lib.parseUintM (2 ^ 64 - 1) (u / 10) (UInt8.ofNat (48 + u % 10) :: r) = _
      conv => lhs; unfold Go.Lib.parseUintM
      rw [e, if_pos (by omega), if_neg (by omega), if_neg (by omega)]
      congr 1; omega
theorem parseB_dec {u : Nat} (hu : u ≤ 10000000000000000) : Go.Lib.parseUintB 64 (Go.Lib.decDigits u) = .ok u := by
  unfold Go.Lib.parseUintB
  rw [if_neg (dec_ne u)]
  have := parse_dec u [] hu
  rw [List.append_nil] at this
  rw [this]; rfl
theorem parse_itoa {n : Int} (h : n.natAbs ≤ 10000000000000000) : Go.Lib.parseIntB 64 (Go.Lib.itoa n) = .ok n := by
  unfold Go.Lib.itoa
  by_cases hn : n < 0
  · rw [if_pos hn, Go.Lib.parseIntB_minus, parseB_dec h]
    unfold Go.Lib.signedC
    simp only
    rw [if_neg (by omega)]
    congr 1; omega
  · rw [if_neg hn]
    have hp := parseB_dec (u := n.toNat) (by omega)
    cases hd : Go.Lib.decDigits n.toNat with
    | nil => exact absurd hd (dec_ne _)
    | cons c r =>
      have hc := dec_digits n.toNat c (by rw [hd]; simp)
      rw [hd] at hp
      rw [Go.Lib.parseIntB_plain 64 c r (by omega) (by omega), hp]
      unfold Go.Lib.signlessC
      simp only
      rw [if_neg (by omega)]
      congr 1; omega
def vF (acc : Int) : List UInt8 → Int
  | [] => acc
  | b :: l => vF (if 48 ≤ b.toNat ∧ b.toNat ≤ 57 then 10 * acc + ((b.toNat : Int) - 48) else acc) l
theorem vF_dec : ∀ (u : Nat) (r : List UInt8), vF 0 (Go.Lib.decDigits u ++ r) = vF u r := by
  intro u
  induction u using Nat.strongRecOn with
  | ind u ih =>
    intro r
    rw [Go.Lib.decDigits]
    by_cases h : u < 10
    · have e : (UInt8.ofNat (48 + u)).toNat = 48 + u := by simp; omega
      rw [dif_pos h]
      show vF 0 (UInt8.ofNat (48 + u) :: r) = _
      conv => lhs; unfold vF
      rw [e, if_pos (by omega)]
      congr 1; omega
    · have e : (UInt8.ofNat (48 + u % 10)).toNat = 48 + u % 10 := by simp; omega
      rw [dif_neg h, List.append_assoc, ih (u / 10) (by omega)]
      show vF ((u / 10 : Nat) : Int) (UInt8.ofNat (48 + u % 10) :: r) = _
      conv => lhs; unfold vF
      rw [e, if_pos (by omega)]
      congr 1; omega
theorem vF_itoa (n : Int) : (if (Go.Lib.itoa n).head?.map (fun b => b.toNat) = some 45 then -(vF 0 (Go.Lib.itoa n)) else vF 0 (Go.Lib.itoa n)) = n := by
  unfold Go.Lib.itoa
  by_cases hn : n < 0
  · rw [if_pos hn]
    have h0 : vF 0 (45 :: Go.Lib.decDigits n.natAbs) = vF 0 (Go.Lib.decDigits n.natAbs) := rfl
    have := vF_dec n.natAbs []
    rw [List.append_nil] at this
    rw [if_pos (by rfl), h0, this]
    show -(((n.natAbs : Nat) : Int)) = n
    omega
  · rw [if_neg hn]
    have := vF_dec n.toNat []
    rw [List.append_nil] at this
    rw [this]
    have hh : ¬ (Go.Lib.decDigits n.toNat).head?.map (fun b => b.toNat) = some 45 := by
      cases hd : Go.Lib.decDigits n.toNat with
      | nil => exact absurd hd (dec_ne _)
      | cons c r =>
        have hc := dec_digits n.toNat c (by rw [hd]; simp)
        simp; omega
    rw [if_neg hh]
    show ((n.toNat : Nat) : Int) = n
    omega
theorem itoa_len17 {n : Int} (h : n.natAbs ≤ 1000000000000000) : 1 ≤ (Go.Lib.itoa n).length ∧ (Go.Lib.itoa n).length ≤ 17 := by
  have h1 := dec_length 15 n.natAbs (by have : (10 : Nat) ^ (15 + 1) = 10000000000000000 := by decide
                                        omega)
  have h2 : 0 < (Go.Lib.decDigits n.natAbs).length := List.length_pos_iff.2 (dec_ne _)
  unfold Go.Lib.itoa
  split
  · simp; omega
  · rw [show n.toNat = n.natAbs from by omega]; omega
theorem cm_size : (lit_be717853.size : Int) = 1 := rfl
theorem cm_sat : sat? lit_be717853 0 = some 44 := rfl
theorem x_index_cm (s : ByteArray) : x_strings_Index s lit_be717853 = some (Go.Lib.indexByte (byt s) 44) := by
  unfold x_strings_Index x_internal_stringslite_Index
  rw [cm_size, decide_eq_false (by omega), bsel_false, eqs_iff]
  by_cases h : byt lit_be717853 = byt s
  · rw [decide_eq_true h, bsel_true, ← h]; rfl
  · rw [decide_eq_false h, bsel_false, decide_eq_true rfl, bsel_true, cm_sat, obind_eq]; rfl
theorem split_loopC : ∀ (r : Nat) (D : List ByteArray) (s : ByteArray), (byt s).count 44 = r → D.length + r ≤ 2000000 → (byt s).length ≤ 2000000 →
    ∃ e, loopM (x_strings_genSplit_s2 lit_be717853 0 ((D.length + r : Nat) : Int)) (D ++ List.replicate (r + 1) lit_99ba06bc, s, (D.length : Int)) = some (.inl e) ∧ x_strings_genSplit_k2 e.1 e.2.1 e.2.2 = some (D ++ (cutL 44 (byt s)).map mkS)
  | 0, D, s, hc, hD, hs => by
    refine ⟨(D ++ List.replicate 1 lit_99ba06bc, s, (D.length : Int)), ?_, ?_⟩
    · refine loopM_out ?_
      show x_strings_genSplit_b2 _ _ ((D.length + 0 : Nat) : Int) _ _ (D.length : Int) = _
      unfold x_strings_genSplit_b2
      rw [decide_eq_false (by omega), bsel_false]
    · have hno : (44 : UInt8) ∉ byt s := List.count_eq_zero.1 hc
      show x_strings_genSplit_k2 (D ++ List.replicate 1 lit_99ba06bc) s (D.length : Int) = _
      unfold x_strings_genSplit_k2
      rw [setAt?_of (by omega) (by simp), obind_eq, cutL_none hno]
      simp only [olet_eq]
      rw [wi64 (by omega) (by omega)]
      have e : (D ++ List.replicate 1 lit_99ba06bc).set ((D.length : Nat) : Int).toNat s = D ++ [s] := by
        rw [show ((D.length : Nat) : Int).toNat = D.length from by omega]; simp
      rw [e]
      have e2 : sub? (D ++ [s]) 0 ((D.length : Int) + 1) = some (D ++ [s]) := by
        unfold sub?
        rw [if_pos ⟨by omega, by omega, by simp⟩]
        simp only [Int.toNat_zero, List.drop_zero]
        rw [List.take_of_length_le (by simp)]
      rw [e2]; simp [mk_byt, obind_eq]
  | r + 1, D, s, hc, hD, hs => by
    have hin : (44 : UInt8) ∈ byt s := List.count_pos_iff.1 (by omega)
    obtain ⟨p, q, e1, e2, e3⟩ := idx_hit hin
    have hl : (byt s).length = p.length + 1 + q.length := by rw [e1]; simp; omega
    have hcq : q.count 44 = r := by
      rw [e1, List.count_append, List.count_cons_self, List.count_eq_zero.2 e2] at hc; omega
    obtain ⟨e, h1, h2⟩ := split_loopC r (D ++ [mkS p]) (mkS q) (by rw [byt_mk]; exact hcq) (by simp; omega) (by rw [byt_mk]; omega)
    refine ⟨e, ?_, ?_⟩
    · have st : x_strings_genSplit_s2 lit_be717853 0 ((D.length + (r + 1) : Nat) : Int) (D ++ List.replicate (r + 1 + 1) lit_99ba06bc, s, (D.length : Int)) = some (.next ((D ++ [mkS p]) ++ List.replicate (r + 1) lit_99ba06bc, mkS q, (((D ++ [mkS p]).length : Nat) : Int))) := by
        show x_strings_genSplit_b2 _ _ ((D.length + (r + 1) : Nat) : Int) _ _ (D.length : Int) = _
        unfold x_strings_genSplit_b2
        rw [decide_eq_true (by omega), bsel_true, x_index_cm, obind_eq, e3, decide_eq_false (by omega), bsel_false]
        simp only [olet_eq]
        rw [wi64 (by omega) (by omega), show ((p.length : Nat) : Int) + 0 = ((p.length : Nat) : Int) from by omega]
        have k1 : subs? s 0 ((p.length : Nat) : Int) = some (mkS p) := by
          have := subs_mk (s := s) (i := 0) (j := p.length) (by omega) (by omega)
          rw [show ((0 : Nat) : Int) = 0 from rfl] at this
          rw [this, List.drop_zero, e1]; simp
        rw [k1, obind_eq, setAt?_of (by omega) (by simp), obind_eq, cm_size, wi64 (by omega) (by omega)]
        have k2 : subs? s ((p.length : Int) + 1) (s.size : Int) = some (mkS q) := by
          have := subs_mk (s := s) (i := p.length + 1) (j := (byt s).length) (by omega) (by omega)
          rw [siz, show ((p.length : Int) + 1) = ((p.length + 1 : Nat) : Int) from by omega, this, e1]
          have d : (p ++ 44 :: q).drop (p.length + 1) = q := by simp [List.drop_append]
          rw [d, List.take_of_length_le (by simp; omega)]
        rw [k2, obind_eq, wi64 (by omega) (by omega)]
        have e : (D ++ List.replicate (r + 1 + 1) lit_99ba06bc).set ((D.length : Nat) : Int).toNat (mkS p) = (D ++ [mkS p]) ++ List.replicate (r + 1) lit_99ba06bc := by
          rw [show ((D.length : Nat) : Int).toNat = D.length from by omega, List.replicate_succ]; simp
        rw [e]
        have e4 : (((D ++ [mkS p]).length : Nat) : Int) = (D.length : Int) + 1 := by simp
        rw [e4]
      rw [loopM_next st]
      rw [show D.length + (r + 1) = (D ++ [mkS p]).length + r from by simp; omega]
      exact h1
    · rw [h2, byt_mk, e1, cutL_hit e2]; simp
theorem x_split_cm {s : ByteArray} (h : (byt s).length ≤ 1048576) : x_strings_Split s lit_be717853 = some ((cutL 44 (byt s)).map mkS) := by
  have hcn : (byt s).count 44 ≤ (byt s).length := List.count_le_length
  obtain ⟨e, h1, h2⟩ := split_loopC ((byt s).count 44) [] s rfl (by simp; omega) (by omega)
  have cnt : x_strings_Count s lit_be717853 = some (((byt s).count 44 : Nat) : Int) := by
    unfold x_strings_Count
    rw [cm_size, decide_eq_false (by omega), bsel_false, decide_eq_true rfl, bsel_true, cm_sat, obind_eq]; rfl
  have mn : imin (((byt s).count 44 : Nat) + 1) ((s.size : Int) + 1) = ((byt s).count 44 : Nat) + 1 := by
    unfold imin; rw [if_neg (by rw [siz]; omega)]
  unfold x_strings_Split x_strings_genSplit
  rw [decide_eq_false (by omega), bsel_false, show eqs lit_be717853 lit_99ba06bc = false from rfl, bsel_false, decide_eq_true (by omega), bsel_true, cnt, obind_eq]
  simp only [olet_eq]
  rw [wi64 (by omega) (by omega)]
  unfold x_strings_genSplit_k1
  simp only [olet_eq]
  rw [wi64 (n := (s.size : Int) + 1) (by omega) (by rw [siz]; omega), mn, show mkok 16 (((byt s).count 44 : Nat) + 1) = true from by simp only [mkok, Bool.and_eq_true, decide_eq_true_eq]; omega, need_true, wi64 (by omega) (by omega)]
  have g : ((((byt s).count 44 : Nat) : Int) + 1 - 1) = ((([] : List ByteArray).length + (byt s).count 44 : Nat) : Int) := by simp
  rw [g, show ((((byt s).count 44 : Nat) : Int) + 1).toNat = (byt s).count 44 + 1 from by omega]
  have h1 : loopM (x_strings_genSplit_s2 lit_be717853 0 ((([] : List ByteArray).length + (byt s).count 44 : Nat) : Int)) (List.replicate ((byt s).count 44 + 1) lit_99ba06bc, s, 0) = some (.inl e) := h1
  rw [h1]
  simp only [obind_eq, osum]
  rw [h2]; rfl
theorem itoa_inj {n m : Int} (hn : n.natAbs ≤ 1000000000000000) (hm : m.natAbs ≤ 1000000000000000) (h : Go.Lib.itoa n = Go.Lib.itoa m) : n = m := by
  have h1 := parse_itoa (n := n) (by omega)
  have h2 := parse_itoa (n := m) (by omega)
  rw [h, h2] at h1
  injection h1 with h1
  exact h1.symm
open Classical in
noncomputable def rd (s : List UInt8) : Option Int := if h : ∃ n : Int, n.natAbs ≤ 1000000000000000 ∧ s = Go.Lib.itoa n then some h.choose else none
theorem rd_some {s : List UInt8} {n : Int} (hn : n.natAbs ≤ 1000000000000000) (h : s = Go.Lib.itoa n) : rd s = some n := by
  have hex : ∃ n : Int, n.natAbs ≤ 1000000000000000 ∧ s = Go.Lib.itoa n := ⟨n, hn, h⟩
  unfold rd
  rw [dif_pos hex]
  exact congrArg some (itoa_inj hex.choose_spec.1 hn (hex.choose_spec.2.symm.trans h))
theorem rd_none {s : List UInt8} (h : ¬ ∃ n : Int, n.natAbs ≤ 1000000000000000 ∧ s = Go.Lib.itoa n) : rd s = none := by
  unfold rd; rw [dif_neg h]
theorem rd_is {s : List UInt8} {n : Int} (h : rd s = some n) : n.natAbs ≤ 1000000000000000 ∧ s = Go.Lib.itoa n := by
  unfold rd at h
  split at h
  · rename_i hex
    rw [← Option.some.inj h]; exact hex.choose_spec
  · cases h
noncomputable def rdv (s : List UInt8) : Int × Bool := match rd s with
  | some n => (n, true)
  | none => (0, false)
theorem val_loop {s : ByteArray} : ∀ (k j v : Nat), j + k = (byt s).length → (byt s).length ≤ 17 → (v + 1) * 10 ^ k ≤ 100000000000000000 →
    ∃ r : Nat, loopM (s_l01Value_s3 s) ((v : Int), (j : Int)) = some (.inl (r : Int)) ∧ (r : Int) = vF (v : Int) ((byt s).drop j) ∧ r ≤ 100000000000000000
  | 0, j, v, hj, hl, hv => by
    refine ⟨v, loopM_out ?_, ?_, by omega⟩
    · show s_l01Value_b3 s (v : Int) (j : Int) = _
      unfold s_l01Value_b3
      rw [siz, decide_eq_false (by omega), bsel_false]
    · rw [List.drop_eq_nil_of_le (by omega)]; rfl
  | k + 1, j, v, hj, hl, hv => by
    obtain ⟨b, hb⟩ : ∃ b, (byt s)[j]? = some b := ⟨_, List.getElem?_eq_getElem (by omega)⟩
    have hb2 : b.toNat < 256 := b.toNat_lt
    have hp : 0 < 10 ^ k := Nat.pow_pos (by decide)
    have hpw : (10 * v + 10) * 10 ^ k = (v + 1) * 10 ^ (k + 1) := by rw [Nat.pow_succ, show 10 * v + 10 = (v + 1) * 10 from by omega, Nat.mul_assoc, Nat.mul_comm 10]
    have hv2 : v ≤ 100000000000000000 := by
      have : (v + 1) * 1 ≤ (v + 1) * 10 ^ (k + 1) := Nat.mul_le_mul_left _ (Nat.pow_pos (by decide))
      omega
    have hd : (byt s).drop j = b :: (byt s).drop (j + 1) := drop_at hb
    by_cases hc : 48 ≤ b.toNat ∧ b.toNat ≤ 57
    · have hn : (10 * v + (b.toNat - 48) + 1) * 10 ^ k ≤ 100000000000000000 := by
        have : (10 * v + (b.toNat - 48) + 1) * 10 ^ k ≤ (10 * v + 10) * 10 ^ k := Nat.mul_le_mul_right _ (by omega)
        omega
      obtain ⟨r, h1, h2, h3⟩ := val_loop (s := s) k (j + 1) (10 * v + (b.toNat - 48)) (by omega) hl hn
      have e : s_l01Value_s3 s ((v : Int), (j : Int)) = some (.next (((10 * v + (b.toNat - 48) : Nat) : Int), ((j + 1 : Nat) : Int))) := by
        show s_l01Value_b3 s (v : Int) (j : Int) = _
        unfold s_l01Value_b3 s_l01Value_k2
        rw [siz, decide_eq_true (by omega), bsel_true, sat_mk hb]
        simp only [obind_eq, olet_eq]
        rw [decide_eq_true (by omega), bsel_true, decide_eq_true (by omega), bsel_true, u8_wrap (n := (b.toNat : Int) - 48) (by omega) (by omega), wi64 (n := (b.toNat : Int) - 48) (by omega) (by omega), wi64 (n := 10 * (v : Int)) (by omega) (by omega), wi64 (n := 10 * (v : Int) + ((b.toNat : Int) - 48)) (by omega) (by omega), wi64 (n := (j : Int) + 1) (by omega) (by omega)]
        have e1 : ((10 * v + (b.toNat - 48) : Nat) : Int) = 10 * (v : Int) + ((b.toNat : Int) - 48) := by omega
        rw [e1]; rfl
      refine ⟨r, by rw [loopM_next e]; exact h1, ?_, h3⟩
      rw [h2, hd]
      conv => rhs; unfold vF
      rw [if_pos hc]
      have e1 : ((10 * v + (b.toNat - 48) : Nat) : Int) = 10 * (v : Int) + ((b.toNat : Int) - 48) := by omega
      rw [e1]
    · have hn : (v + 1) * 10 ^ k ≤ 100000000000000000 := by
        have : (v + 1) * 10 ^ k ≤ (v + 1) * 10 ^ (k + 1) := Nat.mul_le_mul_left _ (Nat.pow_le_pow_right (by decide) (by omega))
        omega
      obtain ⟨r, h1, h2, h3⟩ := val_loop (s := s) k (j + 1) v (by omega) hl hn
      have e : s_l01Value_s3 s ((v : Int), (j : Int)) = some (.next ((v : Int), ((j + 1 : Nat) : Int))) := by
        show s_l01Value_b3 s (v : Int) (j : Int) = _
        unfold s_l01Value_b3 s_l01Value_k2
        rw [siz, decide_eq_true (by omega), bsel_true, sat_mk hb]
        simp only [obind_eq, olet_eq]
        rw [wi64 (n := (j : Int) + 1) (by omega) (by omega)]
        by_cases h48 : 48 ≤ b.toNat
        · rw [decide_eq_true (by omega), bsel_true, decide_eq_false (by omega), bsel_false]; rfl
        · rw [decide_eq_false (by omega), bsel_false]; rfl
      refine ⟨r, by rw [loopM_next e]; exact h1, ?_, h3⟩
      rw [h2, hd]
      conv => rhs; unfold vF
      rw [if_neg hc]
theorem s_value_k4 {s : ByteArray} {n : Int} (hn : n.natAbs ≤ 100000000000000000) (h : ∀ m : Int, m.natAbs ≤ 1000000000000000 → byt s = Go.Lib.itoa m → n = m) : s_l01Value_k4 s n = some (rdv (byt s)) := by
  unfold s_l01Value_k4
  have ir : (decide (-1000000000000000 ≤ n) && decide (n ≤ 1000000000000000)) = inR (-1000000000000000) 1000000000000000 n := rfl
  rw [s_l00In_eq, obind_eq, ir]
  by_cases hr : inR (-1000000000000000) 1000000000000000 n = true
  · have hr2 : n.natAbs ≤ 1000000000000000 := by simp [inR] at hr; omega
    rw [hr, bsel_true, s_dec_eq (by omega), obind_eq, eqs_iff, byt_mk]
    by_cases he : Go.Lib.itoa n = byt s
    · rw [decide_eq_true he, Bool.not_true, bsel_false]
      unfold rdv
      rw [rd_some hr2 he.symm]
    · rw [decide_eq_false he, Bool.not_false, bsel_true]
      unfold rdv
      rw [rd_none (by
        rintro ⟨m, hm, e⟩
        have := h m hm e
        subst this
        exact he e.symm)]
  · rw [show inR (-1000000000000000) 1000000000000000 n = false from by simpa using hr, bsel_false]
    unfold rdv
    rw [rd_none (by
      rintro ⟨m, hm, e⟩
      have := h m hm e
      subst this
      apply hr
      simp [inR]; omega)]
theorem s_value_eq {s : ByteArray} : s_l01Value s = some (rdv (byt s)) := by
  unfold s_l01Value
  by_cases h1 : (s.size : Int) < 1
  · rw [decide_eq_true h1, bsel_true]
    unfold rdv
    rw [rd_none (by
      rintro ⟨m, hm, e⟩
      have := itoa_len17 hm
      rw [← e, ← siz] at this; omega)]
  · rw [decide_eq_false h1, bsel_false]
    by_cases h2 : 17 < (s.size : Int)
    · rw [decide_eq_true h2, bsel_true]
      unfold rdv
      rw [rd_none (by
        rintro ⟨m, hm, e⟩
        have := itoa_len17 hm
        rw [← e, ← siz] at this; omega)]
    · rw [decide_eq_false h2, bsel_false]
      have hl : (byt s).length ≤ 17 := by rw [← siz]; omega
      have hl1 : 1 ≤ (byt s).length := by rw [← siz]; omega
      obtain ⟨r, e1, e2, e3⟩ := val_loop (s := s) (byt s).length 0 0 (by omega) hl (by
        have : 10 ^ (byt s).length ≤ 10 ^ 17 := Nat.pow_le_pow_right (by decide) hl
        have h17 : (10 : Nat) ^ 17 = 100000000000000000 := by decide
        omega)
      have e1 : loopM (s_l01Value_s3 s) (0, 0) = some (.inl (r : Int)) := e1
      rw [List.drop_zero] at e2
      have e2 : (r : Int) = vF 0 (byt s) := e2
      rw [e1]
      show s_l01Value_k3 s (r : Int) = _
      unfold s_l01Value_k3
      cases hb : byt s with
      | nil => rw [hb] at hl1; simp at hl1
      | cons b l =>
        have h0 : sat? s 0 = some (b.toNat : Int) := sat_mk (i := 0) (by rw [hb]; rfl)
        have key : ∀ m : Int, m.natAbs ≤ 1000000000000000 → byt s = Go.Lib.itoa m → (if b.toNat = 45 then -(r : Int) else (r : Int)) = m := by
          intro m hm e
          have := vF_itoa m
          rw [← e, ← e2, hb] at this
          simp only [List.head?_cons, Option.map_some, Option.some.injEq] at this
          exact this
        rw [h0, obind_eq, ← hb]
        by_cases h45 : b.toNat = 45
        · rw [decide_eq_true (by omega), bsel_true]
          simp only [olet_eq]
          rw [wi64 (by omega) (by omega), show (0 : Int) - (r : Int) = -(r : Int) from by omega]
          refine s_value_k4 (by omega) fun m hm e => ?_
          have := key m hm e
          rw [if_pos h45] at this; exact this
        · rw [decide_eq_false (by omega), bsel_false]
          refine s_value_k4 (by omega) fun m hm e => ?_
          have := key m hm e
          rw [if_neg h45] at this; exact this
theorem i_value_eq {s : ByteArray} (hs : (byt s).length ≤ 1048576) : i_ReadDecimal s = some (rdv (byt s)) := by
  unfold i_ReadDecimal x_strconv_ParseInt
  rw [show decide ((10 : Int) = 10) = true from rfl, need_true, show decide ((64 : Int) = 64) = true from rfl, need_true, decide_eq_true (by rw [siz]; omega), need_true]
  rw [show s.data.toList = byt s from rfl]
  have bad : (∀ v, Go.Lib.parseIntB 64 (byt s) ≠ .ok v) → rd (byt s) = none := fun h => rd_none (by
    rintro ⟨m, hm, e⟩
    exact h m (by rw [e]; exact parse_itoa (by omega)))
  cases hp : Go.Lib.parseIntB 64 (byt s) with
  | range =>
    unfold rdv
    rw [bad (fun v h => by rw [hp] at h; cases h)]; rfl
  | ok v =>
    simp only [obind_eq, osum]
    rw [i_inRange_eq, obind_eq]
    have ir : (decide (-1000000000000000 ≤ v) && decide (v ≤ 1000000000000000)) = inR (-1000000000000000) 1000000000000000 v := rfl
    rw [ir]
    by_cases hr : inR (-1000000000000000) 1000000000000000 v = true
    · have hr2 : v.natAbs ≤ 1000000000000000 := by simp [inR] at hr; omega
      rw [hr, bsel_true, i_dec_eq (by omega) (by omega), obind_eq, eqs_iff, byt_mk]
      by_cases he : Go.Lib.itoa v = byt s
      · rw [decide_eq_true he, Bool.not_true, bsel_false]
        unfold rdv
        rw [rd_some hr2 he.symm]
      · rw [decide_eq_false he, Bool.not_false, bsel_true]
        unfold rdv
        rw [rd_none (by
          rintro ⟨m, hm, e⟩
          have h2 := parse_itoa (n := m) (by omega)
          rw [← e, hp] at h2
          injection h2 with h2
          subst h2
          exact he e.symm)]
    · rw [show inR (-1000000000000000) 1000000000000000 v = false from by simpa using hr, bsel_false]
      unfold rdv
      rw [rd_none (by
        rintro ⟨m, hm, e⟩
        have h2 := parse_itoa (n := m) (by omega)
        rw [← e, hp] at h2
        injection h2 with h2
        subst h2
        apply hr
        simp [inR]; omega)]
  | _ =>
    unfold rdv
    rw [bad (fun v h => by rw [hp] at h; cases h)]; rfl
noncomputable def rdL : List (List UInt8) → Option (List Int)
  | [] => some []
  | p :: r => match rd p with
    | none => none
    | some n => match rdL r with
      | none => none
      | some l => some (n :: l)
noncomputable def rl (s : List UInt8) : Bool × List Int := if s = [110, 111, 110, 101] then (true, []) else match rdL (cutL 44 s) with
  | none => (false, [])
  | some l => if (cutL 44 s).length ≤ 64 then (true, l) else (false, [])
theorem part_len {c : UInt8} : ∀ {s p : List UInt8}, p ∈ cutL c s → p.length ≤ s.length
  | [], p, h => by simp [cutL] at h; subst h; simp
  | b :: l, p, h => by
    unfold cutL at h
    split at h
    · rcases List.mem_cons.1 h with e | e
      · subst e; simp
      · have := part_len e; simp; omega
    · cases hc : cutL c l with
      | nil => rw [hc] at h; simp at h; subst h; simp
      | cons x y =>
        rw [hc] at h
        rcases List.mem_cons.1 h with e | e
        · subst e
          have := part_len (c := c) (s := l) (p := x) (by rw [hc]; simp)
          simp; omega
        · have := part_len (c := c) (s := l) (p := p) (by rw [hc]; simp [e])
          simp; omega
theorem s_list_loop {P : List (List UInt8)} (hP : P.length ≤ 64) : ∀ (k j : Nat) (L : List Int), j + k = P.length → L.length ≤ j →
    loopM (s_l01Numbers_s1 (P.map mkS)) (L, (j : Int)) = some (match rdL (P.drop j) with | none => .inr (false, []) | some l => .inl (L ++ l))
  | 0, j, L, hj, hL => by
    have hd : P.drop j = [] := List.drop_eq_nil_of_le (by omega)
    rw [hd, loopM_out (e := L)]
    · simp [rdL]
    · show s_l01Numbers_b1 (P.map mkS) L (j : Int) = _
      unfold s_l01Numbers_b1
      rw [List.length_map, decide_eq_false (by omega), bsel_false]
  | k + 1, j, L, hj, hL => by
    obtain ⟨p, hp⟩ : ∃ p, P[j]? = some p := ⟨_, List.getElem?_eq_getElem (by omega)⟩
    have ha : at? (P.map mkS) (j : Int) = some (mkS p) := at?_of (by omega) (by rw [show (j : Int).toNat = j from by omega, List.getElem?_map, hp]; rfl)
    have hd := drop_at hp
    have body : s_l01Numbers_s1 (P.map mkS) (L, (j : Int)) = match rd p with | none => some (.ret (false, [])) | some n => some (.next (L ++ [n], ((j + 1 : Nat) : Int))) := by
      show s_l01Numbers_b1 (P.map mkS) L (j : Int) = _
      unfold s_l01Numbers_b1
      rw [List.length_map, decide_eq_true (by omega), bsel_true, ha, obind_eq, s_value_eq, byt_mk]
      unfold rdv
      cases rd p with
      | none => rfl
      | some n =>
        simp only [obind2_eq]
        rw [bsel_true, show apok 8 L.length 1 = true from by simp only [apok, Bool.and_eq_true, decide_eq_true_eq]; omega, need_true]
        simp only [olet_eq]
        rw [wi64 (by omega) (by omega)]; rfl
    rw [hd]
    unfold rdL
    cases hr : rd p with
    | none => rw [hr] at body; rw [loopM_ret body]
    | some n =>
      rw [hr] at body
      rw [loopM_next body, s_list_loop hP k (j + 1) _ (by omega) (by simp; omega)]
      cases rdL (P.drop (j + 1)) <;> simp
theorem i_list_loop {P : List (List UInt8)} (hP : P.length ≤ 2000000) (hl : ∀ p ∈ P, p.length ≤ 1048576) : ∀ (k j : Nat) (L : List Int), j + k = P.length → L.length = j → j ≤ 64 →
    loopM (i_ReadList_s1 (P.map mkS)) (L, (j : Int)) = some (match rdL (P.drop j) with | none => .inr (false, []) | some l => if P.length ≤ 64 then .inl (L ++ l) else .inr (false, []))
  | 0, j, L, hj, hL, h64 => by
    have hd : P.drop j = [] := List.drop_eq_nil_of_le (by omega)
    rw [hd, loopM_out (e := L)]
    · unfold rdL
      simp only
      rw [if_pos (by omega)]; simp
    · show i_ReadList_b1 (P.map mkS) L (j : Int) = _
      unfold i_ReadList_b1
      rw [List.length_map, decide_eq_false (by omega), bsel_false]
  | k + 1, j, L, hj, hL, h64 => by
    obtain ⟨p, hp⟩ : ∃ p, P[j]? = some p := ⟨_, List.getElem?_eq_getElem (by omega)⟩
    have ha : at? (P.map mkS) (j : Int) = some (mkS p) := at?_of (by omega) (by rw [show (j : Int).toNat = j from by omega, List.getElem?_map, hp]; rfl)
    have hd := drop_at hp
    have body : i_ReadList_s1 (P.map mkS) (L, (j : Int)) = match rd p with | none => some (.ret (false, [])) | some n => if j = 64 then some (.ret (false, [])) else some (.next (L ++ [n], ((j + 1 : Nat) : Int))) := by
      show i_ReadList_b1 (P.map mkS) L (j : Int) = _
      unfold i_ReadList_b1
      rw [List.length_map, decide_eq_true (by omega), bsel_true, ha, obind_eq, i_value_eq (by rw [byt_mk]; exact hl p (List.mem_of_getElem? hp)), byt_mk]
      unfold rdv
      cases rd p with
      | none => rfl
      | some n =>
        simp only [obind2_eq]
        rw [bsel_true]
        by_cases hj64 : j = 64
        · rw [decide_eq_true (by omega), bsel_true, if_pos hj64]
        · rw [decide_eq_false (by omega), bsel_false, if_neg hj64, show apok 8 L.length 1 = true from by simp only [apok, Bool.and_eq_true, decide_eq_true_eq]; omega, need_true]
          simp only [olet_eq]
          rw [wi64 (by omega) (by omega)]; rfl
    rw [hd]
    unfold rdL
    cases hr : rd p with
    | none => rw [hr] at body; rw [loopM_ret body]
    | some n =>
      rw [hr] at body
      simp only at body ⊢
      by_cases hj64 : j = 64
      · rw [if_pos hj64] at body
        rw [loopM_ret body]
        cases rdL (P.drop (j + 1)) with
        | none => rfl
        | some l => simp only; rw [if_neg (by omega)]
      · rw [if_neg hj64] at body
        rw [loopM_next body, i_list_loop hP hl k (j + 1) _ (by omega) (by simp; omega) (by omega)]
        cases rdL (P.drop (j + 1)) with
        | none => rfl
        | some l => simp only; split <;> simp
theorem none_byt : byt lit_5ac87db9 = [110, 111, 110, 101] := rfl
theorem s_list_eq {s : ByteArray} (hs : (byt s).length ≤ 1048576) : s_l01Numbers s = some (rl (byt s)) := by
  unfold s_l01Numbers rl
  rw [eqs_iff, none_byt]
  by_cases h : byt s = [110, 111, 110, 101]
  · rw [decide_eq_true h, bsel_true, if_pos h]
  · have sc : s_l01Cut s 44 = some ((cutL 44 (byt s)).map mkS) := s_cut_eq (c := 44) (by omega)
    rw [decide_eq_false h, bsel_false, if_neg h, sc, obind_eq, List.length_map]
    by_cases h64 : (cutL 44 (byt s)).length ≤ 64
    · have e : loopM (s_l01Numbers_s1 ((cutL 44 (byt s)).map mkS)) ([], 0) = _ := s_list_loop h64 (cutL 44 (byt s)).length 0 [] (by omega) (by simp)
      rw [decide_eq_false (by omega), bsel_false, e, List.drop_zero]
      cases rdL (cutL 44 (byt s)) with
      | none => rfl
      | some l => simp only; rw [if_pos h64]; rfl
    · rw [decide_eq_true (by omega), bsel_true]
      cases rdL (cutL 44 (byt s)) with
      | none => rfl
      | some l => simp only; rw [if_neg h64]
theorem i_list_eq {s : ByteArray} (hs : (byt s).length ≤ 1048576) : i_ReadList s = some (rl (byt s)) := by
  unfold i_ReadList rl
  rw [eqs_iff, none_byt]
  by_cases h : byt s = [110, 111, 110, 101]
  · rw [decide_eq_true h, bsel_true, if_pos h]
  · have hcn : (byt s).count 44 ≤ (byt s).length := List.count_le_length
    have e : loopM (i_ReadList_s1 ((cutL 44 (byt s)).map mkS)) ([], 0) = _ := i_list_loop (P := cutL 44 (byt s)) (by rw [cutL_len]; omega) (fun p hp => by have := part_len hp; omega) (cutL 44 (byt s)).length 0 [] (by omega) rfl (by omega)
    rw [decide_eq_false h, bsel_false, if_neg h, x_split_cm hs, obind_eq, e, List.drop_zero]
    cases rdL (cutL 44 (byt s)) with
    | none => rfl
    | some l =>
      simp only
      by_cases h64 : (cutL 44 (byt s)).length ≤ 64
      · rw [if_pos h64, if_pos h64]; rfl
      · rw [if_neg h64, if_neg h64]; rfl
theorem rdL_all : ∀ {P : List (List UInt8)} {l : List Int}, rdL P = some l → l.length = P.length ∧ ∀ p ∈ P, ∃ n : Int, p = Go.Lib.itoa n
  | [], l, h => by unfold rdL at h; rw [← Option.some.inj h]; simp
  | p :: r, l, h => by
    unfold rdL at h
    cases hp : rd p with
    | none => rw [hp] at h; cases h
    | some n =>
      rw [hp] at h
      cases hr : rdL r with
      | none => rw [hr] at h; cases h
      | some l2 =>
        rw [hr] at h
        obtain ⟨k1, k2⟩ := rdL_all hr
        rw [← Option.some.inj h]
        refine ⟨by simp [k1], fun q hq => ?_⟩
        rcases List.mem_cons.1 hq with e | e
        · exact ⟨n, e.trans (rd_is hp).2⟩
        · exact k2 q e
theorem cut_mem {c b : UInt8} (hbc : b ≠ c) : ∀ {s : List UInt8}, b ∈ s → ∃ p ∈ cutL c s, b ∈ p
  | [], h => by simp at h
  | x :: l, h => by
    by_cases hx : x = c
    · have hl : b ∈ l := by
        rcases List.mem_cons.1 h with e | e
        · exact absurd (e.trans hx) hbc
        · exact e
      obtain ⟨p, h1, h2⟩ := cut_mem hbc hl
      refine ⟨p, ?_, h2⟩
      unfold cutL; rw [if_pos hx]; simp [h1]
    · have hcut : cutL c (x :: l) = match cutL c l with | [] => [[x]] | h :: t => (x :: h) :: t := by
        conv => lhs; unfold cutL
        rw [if_neg hx]
      rw [hcut]
      have hne : cutL c l ≠ [] := by
        intro e
        have := cutL_len (c := c) (l := l)
        rw [e] at this; simp at this
      cases hc : cutL c l with
      | nil => exact absurd hc hne
      | cons y t =>
        rcases List.mem_cons.1 h with e | e
        · exact ⟨x :: y, by simp, by simp [e]⟩
        · obtain ⟨p, h1, h2⟩ := cut_mem hbc e
          rw [hc] at h1
          rcases List.mem_cons.1 h1 with e1 | e1
          · exact ⟨x :: y, by simp, by subst e1; simp [h2]⟩
          · exact ⟨p, by simp [e1], h2⟩
theorem rl_semi {s : List UInt8} (h : 59 ∈ s) : rl s = (false, []) := by
  unfold rl
  rw [if_neg (by intro e; rw [e] at h; simp at h)]
  cases hr : rdL (cutL 44 s) with
  | none => rfl
  | some l =>
    exfalso
    obtain ⟨p, h1, h2⟩ := cut_mem (c := 44) (b := 59) (by decide) h
    obtain ⟨n, e⟩ := (rdL_all hr).2 p h1
    rw [e] at h2
    have := itoa_bytes h2
    have h59 : (59 : UInt8).toNat = 59 := rfl
    omega
theorem rl_len (s : List UInt8) : (rl s).2.length ≤ 64 := by
  unfold rl
  split
  · simp
  · cases hr : rdL (cutL 44 s) with
    | none => simp
    | some l =>
      have := (rdL_all hr).1
      simp only
      split
      · simp; omega
      · simp
theorem whole_valid (a0 a1 : Int) {a2 : List Int} (h2 : a2.length ≤ 1048576) : ∃ v : Bool, s_l06Is a0 a1 a2 1000000 = some v ∧ i_ValidWhole a0 a1 a2 = some v := by
  unfold s_l06Is i_ValidWhole i_isWhole i_length_int64
  rw [s_l06Bound_eq h2]
  simp only [s_l00In_eq, i_inRange_eq, i_allIn_eq h2, obind_eq, olet_eq]
  have w0 : IntKind.i64.wrap (0 - 1000000) = -1000000 := by decide
  rw [w0]
  have ir : ∀ x : Int, (decide (1 ≤ x) && decide (x ≤ 6)) = inR 1 6 x := fun _ => rfl
  simp only [ir]
  cases inR 1 6 a0
  · exact ⟨false, rfl, rfl⟩
  · cases inR 1 6 a1
    · exact ⟨false, rfl, rfl⟩
    · cases decide ((a2.length : Int) = IntKind.i64.wrap (a0 * a1))
      · exact ⟨false, rfl, rfl⟩
      · exact ⟨_, rfl, rfl⟩
theorem sm_one : byt lit_b7340269 = [59] := rfl
theorem ReadWhole_eq (a0 : ByteArray) (h : a0.size ≤ 1048576) : ∃ (z0 z1 : Int) (z2 : Bool) (z3 : List Int), s_ReadWhole a0 = some (z0, z1, z2, z3) ∧ i_ReadWhole a0 = some (z0, z1, z2, z3) ∧ z3.length ≤ 1048576 := by
  have hb : (byt a0).length ≤ 1048576 := by rw [← siz]; exact h
  have sc : s_l01Cut a0 59 = some ((cutL 59 (byt a0)).map mkS) := s_cut_eq (c := 59) (by omega)
  have fail : (∃ b l, s_l08Sides a0 = some (0, 0, lit_99ba06bc, false) ∧ i_readSides a0 = some (0, 0, lit_99ba06bc, false) ∧ rl [] = (b, l)) → ∃ (z0 z1 : Int) (z2 : Bool) (z3 : List Int), s_ReadWhole a0 = some (z0, z1, z2, z3) ∧ i_ReadWhole a0 = some (z0, z1, z2, z3) ∧ z3.length ≤ 1048576 := by
    rintro ⟨b, l, e1, e2, e3⟩
    refine ⟨0, 0, false, [], ?_, ?_, by simp⟩
    · unfold s_ReadWhole s_l08ReadWhole
      rw [e1]; rfl
    · unfold i_ReadWhole
      rw [e2, obind4_eq, bsel_false, i_list_eq (by decide)]
      show obind2 (some (rl [])) _ = _
      rw [e3, obind2_eq]
      cases b <;> rfl
  by_cases hs : 59 ∈ byt a0
  · obtain ⟨p, q, hpq, hp⟩ := has_split hs
    have hlen : (byt a0).length = p.length + 1 + q.length := by rw [hpq]; simp; omega
    have ct : x_strings_Cut a0 lit_b7340269 = some (mkS p, mkS q, true) := cut_hit sm_one hpq hp (by omega)
    have lp : i_ReadList (mkS p) = some (rl p) := by rw [i_list_eq (by rw [byt_mk]; omega), byt_mk]
    have lq : i_ReadList (mkS q) = some (rl q) := by rw [i_list_eq (by rw [byt_mk]; omega), byt_mk]
    have np : s_l01Numbers (mkS p) = some (rl p) := by rw [s_list_eq (by rw [byt_mk]; omega), byt_mk]
    have nq : s_l01Numbers (mkS q) = some (rl q) := by rw [s_list_eq (by rw [byt_mk]; omega), byt_mk]
    have hcut : cutL 59 (byt a0) = p :: cutL 59 q := by rw [hpq, cutL_hit hp]
    rw [hcut, List.map_cons] at sc
    have hqn : (cutL 59 q).length = q.count 59 + 1 := cutL_len
    cases hrl : rl p with
    | mk o l =>
      rw [hrl] at lp np
      by_cases hgood : o = true ∧ l.length = 2
      · obtain ⟨ho, hl2⟩ := hgood
        subst ho
        match l, hl2 with
        | [x, y], _ =>
          have iS : i_readSides a0 = some (x, y, mkS q, true) := by
            unfold i_readSides
            rw [ct, obind3_eq, bsel_true, lp, obind2_eq, bsel_true]; rfl
          by_cases hq : 59 ∈ q
          · have hc := List.count_pos_iff.2 hq
            have sS : s_l08Sides a0 = some (0, 0, lit_99ba06bc, false) := by
              unfold s_l08Sides
              rw [sc, obind_eq, decide_eq_false (by simp; omega), Bool.not_false, bsel_true]
            refine ⟨0, 0, false, [], ?_, ?_, by simp⟩
            · unfold s_ReadWhole s_l08ReadWhole
              rw [sS]; rfl
            · unfold i_ReadWhole
              rw [iS, obind4_eq, bsel_true, lq, rl_semi hq]; rfl
          · have sS : s_l08Sides a0 = some (x, y, mkS q, true) := by
              unfold s_l08Sides
              rw [sc, cutL_none hq, obind_eq]
              show bsel false _ _ = _
              rw [bsel_false]
              show obind (some (mkS p)) _ = _
              rw [obind_eq, np, obind2_eq, bsel_true]; rfl
            cases hr2 : rl q with
            | mk o2 l2 =>
              rw [hr2] at lq nq
              have hl64 := rl_len q
              rw [hr2] at hl64
              have hl64 : l2.length ≤ 64 := hl64
              obtain ⟨v, v1, v2⟩ := whole_valid x y (a2 := l2) (by omega)
              cases o2 with
              | false =>
                refine ⟨0, 0, false, [], ?_, ?_, by simp⟩
                · unfold s_ReadWhole s_l08ReadWhole
                  rw [sS, obind4_eq, bsel_true, nq]; rfl
                · unfold i_ReadWhole
                  rw [iS, obind4_eq, bsel_true, lq]; rfl
              | true =>
                have gS : s_l06Give_02o x y l2 = some (bif v then .inl (x, y, true, l2) else .inr (0, 0, false, l2, [])) := by
                  unfold s_l06Give_02o
                  rw [v1, obind_eq]
                  cases v <;> rfl
                have gI : i_Whole_valid_02o x y l2 = some (bif v then .inl (x, y, true, l2) else .inr (0, 0, false, l2, [])) := by
                  unfold i_Whole_valid_02o
                  rw [v2, obind_eq]
                  cases v <;> rfl
                cases v with
                | false =>
                  refine ⟨0, 0, false, [], ?_, ?_, by simp⟩
                  · unfold s_ReadWhole s_l08ReadWhole
                    rw [sS, obind4_eq, bsel_true, nq, obind2_eq, bsel_true, gS, obind_eq]
                    simp [osum, obind5_eq, need_true, obind4_eq]
                  · unfold i_ReadWhole
                    rw [iS, obind4_eq, bsel_true, lq, obind2_eq, bsel_true, gI, obind_eq]
                    simp [osum, obind5_eq, need_true]
                | true =>
                  refine ⟨x, y, true, l2, ?_, ?_, by omega⟩
                  · unfold s_ReadWhole s_l08ReadWhole
                    rw [sS, obind4_eq, bsel_true, nq, obind2_eq, bsel_true, gS, obind_eq]
                    simp [osum, obind4_eq, need_true]
                  · unfold i_ReadWhole
                    rw [iS, obind4_eq, bsel_true, lq, obind2_eq, bsel_true, gI, obind_eq]
                    simp [osum, obind4_eq, need_true]
      · have iS : i_readSides a0 = some (0, 0, lit_99ba06bc, false) := by
          unfold i_readSides
          rw [ct, obind3_eq, bsel_true, lp, obind2_eq]
          cases o with
          | false => rw [bsel_false]
          | true =>
            have hl : ¬ l.length = 2 := fun e => hgood ⟨rfl, e⟩
            rw [bsel_true, decide_eq_false (by omega), Bool.not_false, bsel_true]
        have sS : s_l08Sides a0 = some (0, 0, lit_99ba06bc, false) := by
          unfold s_l08Sides
          rw [sc, obind_eq]
          by_cases h1 : (cutL 59 q).length = 1
          · rw [decide_eq_true (by simp; omega), Bool.not_true, bsel_false]
            show obind (some (mkS p)) _ = _
            rw [obind_eq, np, obind2_eq]
            cases o with
            | false => rw [bsel_false]
            | true =>
              have hl : ¬ l.length = 2 := fun e => hgood ⟨rfl, e⟩
              rw [bsel_true, decide_eq_false (by omega), Bool.not_false, bsel_true]
          · rw [decide_eq_false (by simp; omega), Bool.not_false, bsel_true]
        exact fail ⟨_, _, sS, iS, rfl⟩
  · have sS : s_l08Sides a0 = some (0, 0, lit_99ba06bc, false) := by
      unfold s_l08Sides
      rw [sc, cutL_none hs, obind_eq]; rfl
    have iS : i_readSides a0 = some (0, 0, lit_99ba06bc, false) := by
      unfold i_readSides
      rw [cut_miss sm_one hs, obind3_eq, bsel_false, i_list_eq hb]
      cases rl (byt a0) with
      | mk o l => cases o <;> rfl
    exact fail ⟨_, _, sS, iS, rfl⟩
theorem w_FnExactReadWhole_true (a0 : ByteArray)  : w_FnExactReadWhole a0 = some true := by
  rcases Nat.lt_or_ge 1048576 a0.size with cb0 | t_a0
  · have db : decide ((1048576 : Int) < (a0.size : Int)) = true := decide_eq_true (by omega)
    simp [w_FnExactReadWhole, w_eqWhole, w_heldWhole, w_markWhole_02o, db]
  have db0 : decide ((1048576 : Int) < (a0.size : Int)) = false := decide_eq_false (by omega)
  obtain ⟨z0, z1, z2, z3, p1, p2, b_z3⟩ := ReadWhole_eq a0 t_a0
  have f1 : w_eqInt64S z3 z3 = some true := w_eqInt64S_refl z3 b_z3
  have f2 : (!(z2 == z2)) = false := by cases z2 <;> rfl
  have f3 : w_markInt64S_0o 1 z3 = some ((1 + (z3.length : Int)), marksI 1 z3.length) := w_markInt64S_0o_eq 1 z3 (by omega) (by omega) b_z3
  have f4 : w_heldInt64S (marksI 1 z3.length) 1 = some (1 + (z3.length : Int)) := w_heldInt64S_eq 1 z3.length (by omega) (by omega) b_z3
  have f5 : decide ((1 + (z3.length : Int)) < 0) = false := by simp <;> omega
  simp only [w_FnExactReadWhole, w_eqWhole, w_heldWhole, w_markWhole_02o, db0, p1, p2, f1, f2, f3, f4, f5, obind_eq, obind2_eq, obind3_eq, obind4_eq, obind5_eq, obind6_eq, obind7_eq, obind8_eq, bsel_true, bsel_false, need_true, olet_eq, marks_len, marksI_len, decide_true, Bool.not_true, Bool.not_false]

end Go.Proofs.YtofhplefkigkfaaDoor
