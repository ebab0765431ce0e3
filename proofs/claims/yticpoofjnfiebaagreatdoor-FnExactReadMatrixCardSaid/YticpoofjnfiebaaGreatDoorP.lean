/- The plain law of FnExactReadMatrix. -/
import Derived.Test.YticpoofjnfiebaaGreatDoorG2
namespace Go.Proofs.YticpoofjnfiebaaGreatDoor
set_option linter.unusedSimpArgs false
set_option linter.unusedVariables false
open Go Go.AM
theorem w_sameFloat_refl (c : F) : w_sameFloat c c = some true := by
  unfold w_sameFloat
  cases h : feq .f64 c c <;> simp [w_sameFloat_k1, h, bsel_if]
theorem w_eqFloat32S_refl (a : List F) (h : a.length ≤ 1048576) : w_eqFloat32S a a = some true := by
  unfold w_eqFloat32S
  rw [loop_eq (l := a) (m := a) rfl ?_ ?_]
  · simp [bsel_if, w_eqFloat32S_k1]
  · intro v x y h0 hv hx hy
    rw [hx] at hy; cases hy
    show w_eqFloat32S_b1 a a v = _
    unfold w_eqFloat32S_b1
    rw [at?_of h0 hx, wrap_succ h0 hv (by omega)]
    simp [bsel_if, hv, w_sameFloat_refl]
  · show w_eqFloat32S_b1 a a (a.length : Int) = _
    unfold w_eqFloat32S_b1
    simp [bsel_if]
def FOks (l : List F) : Prop := ∀ c ∈ l, FOk .f32 c
theorem FOks.at {l : List F} (h : FOks l) {i : Nat} {c : F} (e : l[i]? = some c) : FOk .f32 c := h c (List.mem_of_getElem? e)
theorem s_l00In_eq (n lo hi : Int) : s_l00In n lo hi = some (decide (lo ≤ n) && decide (n ≤ hi)) := by
  unfold s_l00In; cases decide (lo ≤ n) <;> rfl
theorem i_inRange_eq (n lo hi : Int) : i_inRange n lo hi = some (decide (lo ≤ n) && decide (n ≤ hi)) := by
  unfold i_inRange; cases decide (lo ≤ n) <;> rfl
theorem s_l01Finite_eq {c : F} (h : FOk .f32 c) : s_l01Finite c = some (fin32 c) := by
  unfold s_l01Finite; rw [olet_eq, sub_self h]
theorem s_l02Finite_eq {a : List F} (ha : FOks a) (sa : a.length ≤ 1048576) : s_l02Finite a = some (a.all fin32) := by
  unfold s_l02Finite
  rw [loop_all (l := a) (p := fin32) false ?_ ?_]
  · cases h : a.all fin32 <;> simp [s_l02Finite_k1]
  · intro v x h0 hv hx
    show s_l02Finite_b1 a v = _
    unfold s_l02Finite_b1
    rw [at?_of h0 hx, wrap_succ h0 hv (by omega)]
    simp [bsel_if, hv, s_l01Finite_eq (ha.at hx)]
  · show s_l02Finite_b1 a (a.length : Int) = _
    unfold s_l02Finite_b1
    simp [bsel_if]
theorem i_IsFinite_eq {c : F} (h : FOk .f32 c) : i_IsFinite c = some (fin32 c) := by
  unfold i_IsFinite i_isFinite64 x_math_IsNaN x_math_IsInf x_math_Abs x_math_IsInf_k1
  cases c with
  | none => simp [fwiden, fin32]
  | some b =>
    have hw := feq_refl (k := .f64) (b := FloatKind.f64.encode (FloatKind.f32.decode b)) (fwiden_ok h)
    have hw' : feq .f64 (fwiden (some b)) (fwiden (some b)) = true := hw
    have hm := fabs_max h (by simp)
    simp only [olet_eq, obind_eq, hw', Bool.not_true, bsel_false, decide_true, bsel_true, hm, Bool.not_not]
theorem i_areFinite_1_eq {c : F} (h : FOk .f32 c) : i_areFinite_1 c = some (!fin32 c) := by
  unfold i_areFinite_1; rw [i_IsFinite_eq h]; rfl
theorem any_not {α : Type} (l : List α) (p : α → Bool) : l.any (fun x => !p x) = !l.all p := by
  induction l with
  | nil => rfl
  | cons a l ih => simp [ih]
theorem i_areFinite_eq {a : List F} (ha : FOks a) (sa : a.length ≤ 1048576) : i_areFinite a = some (a.all fin32) := by
  unfold i_areFinite x_slices_ContainsFunc_float32_float32_1Fi_areFinite_1 x_slices_IndexFunc_float32_float32_1Fi_areFinite_1
  obtain ⟨r, h1, h2⟩ := loop_find (l := a) (p := fun c => !fin32 c) (step := x_slices_IndexFunc_float32_float32_1Fi_areFinite_1_s1 a) (by
    intro v x h0 hv hx
    show x_slices_IndexFunc_float32_float32_1Fi_areFinite_1_b1 a v = _
    unfold x_slices_IndexFunc_float32_float32_1Fi_areFinite_1_b1
    rw [at?_of h0 hx, wrap_succ h0 hv (by omega)]
    simp [bsel_if, hv, i_areFinite_1_eq (ha.at hx)]) (by
    show x_slices_IndexFunc_float32_float32_1Fi_areFinite_1_b1 a (a.length : Int) = _
    unfold x_slices_IndexFunc_float32_float32_1Fi_areFinite_1_b1
    simp [bsel_if])
  rw [h1, any_not]
  cases h : a.all fin32 <;> simp [x_slices_IndexFunc_float32_float32_1Fi_areFinite_1_k1, h2]
def inR (lo hi n : Int) : Bool := decide (lo ≤ n) && decide (n ≤ hi)
theorem fint_ok (n : Int) : FOk .f32 (fint .f32 n) := ⟨_, encode_FR .f32 (d := .number (n < 0) n.natAbs 0) rfl⟩
theorem feq_fint (n : Int) : feq .f32 (fint .f32 n) (fint .f32 n) = true := feq_refl (fint_ok n)
def marks (k : Int) (n : Nat) : List F := (List.range n).map fun (i : Nat) => fint .f32 (k + (i : Int))
def marksI (k : Int) (n : Nat) : List Int := (List.range n).map fun (i : Nat) => k + (i : Int)
theorem marks_len (k : Int) (n : Nat) : (marks k n).length = n := by simp [marks]
theorem marksI_len (k : Int) (n : Nat) : (marksI k n).length = n := by simp [marksI]
theorem loop_mark {α ρ : Type} (mk : Int → α) (k : Int) (n : Nat) {step : List α × Int × Int → Option (LR (List α × Int × Int) (List α × Int) ρ)}
    (hstep : ∀ (L : List α) (i : Nat), i < n → L.length = n → step (L, k + (i : Int), (i : Int)) = some (.next (L.set i (mk (k + (i : Int))), k + ((i + 1 : Nat) : Int), ((i + 1 : Nat) : Int))))
    (hend : ∀ L : List α, L.length = n → step (L, k + (n : Int), (n : Int)) = some (.out (L, k + (n : Int)))) (a : List α) (ha : a.length = n) :
    loopM step (a, k, 0) = some (.inl ((List.range n).map (fun (i : Nat) => mk (k + (i : Int))), k + (n : Int))) := by
  have key : ∀ (m i : Nat) (L : List α), m + i = n → L.length = n → L.take i = (List.range i).map (fun (i : Nat) => mk (k + (i : Int))) → loopM step (L, k + (i : Int), (i : Int)) = some (.inl ((List.range n).map (fun (i : Nat) => mk (k + (i : Int))), k + (n : Int))) := by
    intro m
    induction m with
    | zero =>
      intro i L hi hL ht
      have : i = n := by omega
      subst this
      rw [loopM_out (hend L hL), ← ht, ← hL, List.take_length]
    | succ m ih =>
      intro i L hi hL ht
      rw [loopM_next (hstep L i (by omega) hL)]
      refine ih (i + 1) _ (by omega) (by simpa using hL) ?_
      rw [List.take_succ_eq_append_getElem (by simp; omega), List.take_set_of_le (Nat.le_refl _), ht, List.range_succ, List.map_append]
      simp
  have := key n 0 a (by omega) ha (by simp)
  simpa using this
theorem w_markFloat32S_0o_eq (k : Int) (a : List F) (h0 : -1000000000 ≤ k) (h1 : k ≤ 1000000000) (ha : a.length ≤ 1048576) : w_markFloat32S_0o k a = some (k + (a.length : Int), marks k a.length) := by
  unfold w_markFloat32S_0o
  rw [loop_mark (fun n => fint .f32 n) k a.length (step := w_markFloat32S_0o_s1 a) ?_ ?_ a rfl]
  · rfl
  · intro L i hi hL
    show w_markFloat32S_0o_b1 a L (k + (i : Int)) (i : Int) = _
    unfold w_markFloat32S_0o_b1
    have hs := setAt?_of (l := L) (v := (i : Int)) (x := fint .f32 (k + (i : Int))) (by omega) (by omega)
    have e1 : IntKind.i64.wrap (k + (i : Int) + 1) = k + ((i + 1 : Nat) : Int) := by rw [wrap_i64 (by omega) (by omega)]; omega
    have e2 : IntKind.i64.wrap ((i : Int) + 1) = ((i + 1 : Nat) : Int) := by rw [wrap_i64 (by omega) (by omega)]; omega
    simp only [olet_eq, hs, obind_eq, e1, e2, bsel_if, decide_eq_true_eq]
    rw [if_pos (by omega)]
    rfl
  · intro L hL
    show w_markFloat32S_0o_b1 a L (k + (a.length : Int)) (a.length : Int) = _
    unfold w_markFloat32S_0o_b1
    simp [bsel_if]
theorem loop_held {k : Int} {n : Nat} {step : Int × Int → Option (LR (Int × Int) Int Int)}
    (hstep : ∀ i : Nat, i < n → step (k + (i : Int), (i : Int)) = some (.next (k + ((i + 1 : Nat) : Int), ((i + 1 : Nat) : Int)))) (hend : step (k + (n : Int), (n : Int)) = some (.out (k + (n : Int)))) :
    loopM step (k, 0) = some (.inl (k + (n : Int))) := by
  have key : ∀ (m i : Nat), m + i = n → loopM step (k + (i : Int), (i : Int)) = some (.inl (k + (n : Int))) := by
    intro m
    induction m with
    | zero => intro i hi; have : i = n := by omega
              subst this; exact loopM_out hend
    | succ m ih => intro i hi; rw [loopM_next (hstep i (by omega))]; exact ih (i + 1) (by omega)
  have := key n 0 (by omega)
  simpa using this
theorem w_heldFloat32S_eq (k : Int) (n : Nat) (h0 : -1000000000 ≤ k) (h1 : k ≤ 1000000000) (hn : n ≤ 1048576) : w_heldFloat32S (marks k n) k = some (k + (n : Int)) := by
  unfold w_heldFloat32S
  rw [loop_held (k := k) (n := n) (step := w_heldFloat32S_s1 (marks k n)) ?_ ?_]
  · rfl
  · intro i hi
    show w_heldFloat32S_b1 (marks k n) (k + (i : Int)) (i : Int) = _
    unfold w_heldFloat32S_b1
    have hx : (marks k n)[(i : Int).toNat]? = some (fint .f32 (k + (i : Int))) := by simp [marks, hi]
    have e1 : IntKind.i64.wrap (k + (i : Int) + 1) = k + ((i + 1 : Nat) : Int) := by rw [wrap_i64 (by omega) (by omega)]; omega
    have e2 : IntKind.i64.wrap ((i : Int) + 1) = ((i + 1 : Nat) : Int) := by rw [wrap_i64 (by omega) (by omega)]; omega
    rw [at?_of (by omega) hx]
    simp only [olet_eq, obind_eq, e1, e2, bsel_if, decide_eq_true_eq, marks_len, feq_fint]
    rw [if_pos (by omega)]
    simp
  · show w_heldFloat32S_b1 (marks k n) (k + (n : Int)) (n : Int) = _
    unfold w_heldFloat32S_b1
    simp [bsel_if, marks_len]
abbrev q1 : List F := [some 1073741824, some 1065353216, some 1065353216, some 1073741824]
theorem FOks.getD {l : List F} (h : FOks l) (n : Nat) : FOk .f32 (l.getD n none) := by
  simp only [List.getD]
  cases e : l[n]? with
  | none => exact fok_none _
  | some c => exact h.at e
theorem FOks.set {l : List F} (h : FOks l) {n : Nat} {x : F} (hx : FOk .f32 x) : FOks (l.set n x) := by
  intro c hc
  rcases List.mem_or_eq_of_mem_set hc with h1 | h1
  · exact h c h1
  · exact h1 ▸ hx
abbrev gI (l : List Int) (i : Nat) : Int := l.getD i 0
structure SpIn (S : Nat) (a1 a2 : List Int) : Prop where
  S1 : 1 ≤ S
  S2 : S ≤ 32
  l1 : a1.length = S + 1
  l2 : a2.length ≤ 512
  z : gI a1 0 = 0
  e : gI a1 S = (a2.length : Int)
structure SpGood (S : Nat) (a1 a2 : List Int) : Prop where
  s : ∀ i, i < S → gI a1 i ≤ gI a1 (i + 1)
  c : ∀ k, k < a2.length → 0 ≤ gI a2 k ∧ gI a2 k ≤ (S : Int) - 1
  o : ∀ i, i < S → ∀ k : Nat, gI a1 i < (k : Int) → (k : Int) < gI a1 (i + 1) → gI a2 (k - 1) < gI a2 k
theorem SpGood.mono {S : Nat} {a1 a2 : List Int} (h : SpGood S a1 a2) : ∀ (d i : Nat), i + d ≤ S → gI a1 i ≤ gI a1 (i + d)
  | 0, i, _ => Int.le_refl _
  | d + 1, i, hd => Int.le_trans (h.mono d i (by omega)) (h.s (i + d) (by omega))
theorem SpGood.lo {S : Nat} {a1 a2 : List Int} (h : SpGood S a1 a2) (i0 : SpIn S a1 a2) {i : Nat} (hi : i ≤ S) : 0 ≤ gI a1 i ∧ gI a1 i ≤ (a2.length : Int) := by
  have h1 := h.mono i 0 (by omega)
  have h2 := h.mono (S - i) i (by omega)
  rw [Nat.zero_add, i0.z] at h1
  rw [show i + (S - i) = S by omega, i0.e] at h2
  exact ⟨h1, h2⟩
structure SpOk (S : Nat) (a1 a2 : List Int) (a3 : List F) : Prop where
  i : SpIn S a1 a2
  g : SpGood S a1 a2
  l : a3.length = a2.length
theorem SpOk.row {S : Nat} {a1 a2 : List Int} {a3 : List F} (h : SpOk S a1 a2 a3) {i : Nat} (hi : i < S) : 0 ≤ gI a1 i ∧ gI a1 i ≤ gI a1 (i + 1) ∧ gI a1 (i + 1) ≤ (a2.length : Int) :=
  ⟨(h.g.lo h.i (by omega)).1, h.g.s i hi, (h.g.lo h.i (i := i + 1) (by omega)).2⟩
def loK (a1 : List Int) (i : Nat) : Nat := (gI a1 i).toNat
def laK (a1 : List Int) (i : Nat) : Nat := (gI a1 (i + 1)).toNat - 1
structure Root (S : Nat) (a1 a2 : List Int) (a3 : List F) : Prop where
  ok : SpOk S a1 a2 a3
  low : ∀ i, i < S → gI a1 i ≤ gI a1 (i + 1) - 1 ∧ gI a2 (laK a1 i) = (i : Int)
theorem Root.at {S : Nat} {a1 a2 : List Int} {a3 : List F} (h : Root S a1 a2 a3) {i : Nat} (hi : i < S) : loK a1 i ≤ laK a1 i ∧ laK a1 i < a2.length ∧ ((laK a1 i : Nat) : Int) = gI a1 (i + 1) - 1 ∧ ((loK a1 i : Nat) : Int) = gI a1 i := by
  obtain ⟨r1, r2, r3⟩ := h.ok.row hi
  obtain ⟨q1, _⟩ := h.low i hi
  unfold loK laK
  omega
def vget (v : List F) (x : Int) : F := v.getD x.toNat none
def Names (n : Nat) (L : List Int) : Prop := ∀ x ∈ L, 0 ≤ x ∧ x < (n : Int)
theorem Names.at {n : Nat} {L : List Int} (h : Names n L) {j : Nat} (hj : j < L.length) : 0 ≤ L.getD j 0 ∧ L.getD j 0 < (n : Int) := by
  rw [List.getD_eq_getElem?_getD, List.getElem?_eq_getElem hj]
  exact h _ (List.getElem_mem hj)
theorem Names.set {n : Nat} {L : List Int} (h : Names n L) {j : Nat} {x : Int} (hx : 0 ≤ x ∧ x < (n : Int)) : Names n (L.set j x) := fun y hy => (List.mem_or_eq_of_mem_set hy).elim (fun k => h y k) (fun k => by rw [k]; exact hx)
theorem vget_mem {v : List F} {x : Int} (h0 : 0 ≤ x) (h1 : x < (v.length : Int)) : vget v x ∈ v := by
  unfold vget
  rw [List.getD_eq_getElem?_getD, List.getElem?_eq_getElem (by omega)]
  exact List.getElem_mem _
def wkey (c : F) : Nat := c.getD 0
def sqW (v : List F) (x : Int) : Nat := wkey (vget v x)
def SqOk (v : List F) : Prop := ∀ c ∈ v, ∃ b, c = some b ∧ b ≤ 2139095040
theorem SqOk.at {v : List F} (h : SqOk v) {x : Int} (h0 : 0 ≤ x) (h1 : x < (v.length : Int)) : vget v x = some (sqW v x) ∧ sqW v x ≤ 2139095040 := by
  obtain ⟨b, e, hb⟩ := h _ (vget_mem h0 h1)
  unfold sqW
  rw [e]; exact ⟨rfl, hb⟩
def mkS (l : List UInt8) : ByteArray := ⟨l.toArray⟩
def byt (s : ByteArray) : List UInt8 := s.data.toList
theorem byt_mk (l : List UInt8) : byt (mkS l) = l := by simp [byt, mkS]
theorem mk_byt (s : ByteArray) : mkS (byt s) = s := Go.Lib.mk_data s
theorem siz (s : ByteArray) : s.size = (byt s).length := Go.Lib.size_eq s
theorem subs_mk {s : ByteArray} {i j : Nat} (h : i ≤ j) (h2 : j ≤ (byt s).length) : subs? s (i : Int) (j : Int) = some (mkS (((byt s).drop i).take (j - i))) := by
  unfold subs?
  rw [if_pos ⟨by omega, by omega, by rw [siz]; omega⟩]
  exact congrArg some (Go.Lib.extract_eq s i j)
theorem sat_mk {s : ByteArray} {i : Nat} {b : UInt8} (h : (byt s)[i]? = some b) : sat? s (i : Int) = some (b.toNat : Int) := by
  unfold sat?
  rw [if_pos (by omega)]
  have hi : i < s.size := by rw [siz]; exact (List.getElem?_eq_some_iff.1 h).1
  have e : s[(i : Int).toNat]? = some b := by
    rw [show (i : Int).toNat = i from by omega, getElem?_pos s i hi]
    have this : s.data.toList[i]? = some s[i] := by
      rw [Array.getElem?_toList]; exact getElem?_pos s.data i hi
    rw [show s.data.toList[i]? = some b from h] at this
    exact this.symm
  rw [e]; rfl
theorem eqs_iff {s t : ByteArray} : eqs s t = decide (byt s = byt t) := by
  unfold eqs byt
  rw [Bool.eq_iff_iff]; simp only [beq_iff_eq, decide_eq_true_eq]
def cutL (c : UInt8) : List UInt8 → List (List UInt8)
  | [] => [[]]
  | b :: l => if b = c then [] :: cutL c l else match cutL c l with
    | [] => [[b]]
    | h :: t => (b :: h) :: t
theorem cutL_none {c : UInt8} : ∀ {p : List UInt8}, c ∉ p → cutL c p = [p]
  | [], _ => rfl
  | b :: l, h => by
    have hb : b ≠ c := fun e => h (by simp [e])
    have hl : c ∉ l := fun e => h (by simp [e])
    unfold cutL
    rw [if_neg hb, cutL_none hl]
theorem cutL_hit {c : UInt8} {q : List UInt8} : ∀ {p : List UInt8}, c ∉ p → cutL c (p ++ c :: q) = p :: cutL c q
  | [], _ => by
    show cutL c (c :: q) = _
    conv => lhs; unfold cutL
    rw [if_pos rfl]
  | b :: l, h => by
    have hb : b ≠ c := fun e => h (by simp [e])
    have hl : c ∉ l := fun e => h (by simp [e])
    show cutL c (b :: (l ++ c :: q)) = _
    conv => lhs; unfold cutL
    rw [if_neg hb, cutL_hit hl]
theorem cutL_len {c : UInt8} : ∀ {l : List UInt8}, (cutL c l).length = l.count c + 1
  | [] => rfl
  | b :: l => by
    have ih := cutL_len (c := c) (l := l)
    unfold cutL
    by_cases hb : b = c
    · rw [if_pos hb, List.length_cons, ih, hb, List.count_cons_self]
    · rw [if_neg hb, List.count_cons_of_ne hb, ← ih]
      cases h : cutL c l with
      | nil => rw [h] at ih; simp at ih
      | cons x y => rfl
theorem idx_hit {c : UInt8} : ∀ {l : List UInt8}, c ∈ l → ∃ p q, l = p ++ c :: q ∧ c ∉ p ∧ Go.Lib.indexByte l c = (p.length : Int)
  | [], h => by simp at h
  | b :: l, h => by
    by_cases hb : b = c
    · exact ⟨[], l, by simp [hb], by simp, by unfold Go.Lib.indexByte; rw [if_pos (by simp [hb])]; rfl⟩
    · have hl : c ∈ l := by rcases List.mem_cons.1 h with e | e; exact absurd e.symm hb; exact e
      obtain ⟨p, q, e1, e2, e3⟩ := idx_hit hl
      refine ⟨b :: p, q, by simp [e1], by simp [e2, Ne.symm hb], ?_⟩
      unfold Go.Lib.indexByte
      rw [if_neg (by simp [hb]), e3, if_neg (by simp)]; simp
theorem idx_miss {c : UInt8} : ∀ {l : List UInt8}, c ∉ l → Go.Lib.indexByte l c = -1
  | [], _ => rfl
  | b :: l, h => by
    have hb : b ≠ c := fun e => h (by simp [e])
    have hl : c ∉ l := fun e => h (by simp [e])
    unfold Go.Lib.indexByte
    rw [if_neg (by simp [hb]), idx_miss hl]; rfl
theorem wi64 {n : Int} (h0 : -9000000000000000000 ≤ n) (h1 : n ≤ 9000000000000000000) : IntKind.i64.wrap n = n := wrap_i64 (by omega) (by omega)
theorem bytePiece {l : List UInt8} {i j : Nat} {b : UInt8} (hij : i ≤ j) (h : l[j]? = some b) : (l.drop i).take (j + 1 - i) = (l.drop i).take (j - i) ++ [b] := by
  rw [show j + 1 - i = (j - i) + 1 from by omega, List.take_add_one, List.getElem?_drop, show i + (j - i) = j from by omega, h]; rfl
theorem pieceDrop {l : List UInt8} {i j : Nat} (hij : i ≤ j) : l.drop i = (l.drop i).take (j - i) ++ l.drop j := by
  have := List.take_append_drop (j - i) (l.drop i)
  rw [List.drop_drop, show i + (j - i) = j from by omega] at this
  exact this.symm
theorem cut_loop {a0 : ByteArray} {c : UInt8} (hn : (byt a0).length ≤ 2000000) : ∀ (k i j : Nat) (L : List ByteArray), j + k = (byt a0).length → i ≤ j → L.length ≤ j → c ∉ ((byt a0).drop i).take (j - i) →
    loopM (s_l01Cut_s3 a0 (c.toNat : Int)) (L, (i : Int), (j : Int)) = some (.inl (L ++ (cutL c ((byt a0).drop i)).map mkS))
  | 0, i, j, L, hj, hij, hL, hc => by
    have ap : apok 16 L.length 1 = true := by simp only [apok, Bool.and_eq_true, decide_eq_true_eq]; omega
    have e : s_l01Cut_s3 a0 (c.toNat : Int) (L, (i : Int), (j : Int)) = some (.next (L ++ [mkS (((byt a0).drop i).take (j - i))], (j : Int) + 1, (j : Int) + 1)) := by
      show s_l01Cut_b3 a0 (c.toNat : Int) L (i : Int) (j : Int) = _
      unfold s_l01Cut_b3 s_l01Cut_k2
      rw [siz, decide_eq_true (by omega), bsel_true, decide_eq_true (by omega), bsel_true, subs_mk hij (by omega), obind_eq, ap, need_true]
      simp only [olet_eq]
      rw [wi64 (by omega) (by omega)]
    rw [loopM_next e, loopM_out (e := L ++ [mkS (((byt a0).drop i).take (j - i))])]
    · have hd : (byt a0).drop i = ((byt a0).drop i).take (j - i) := (List.take_of_length_le (by rw [List.length_drop]; omega)).symm
      have hc' : c ∉ (byt a0).drop i := by rw [hd]; exact hc
      rw [cutL_none hc', ← hd]; rfl
    · show s_l01Cut_b3 a0 (c.toNat : Int) _ ((j : Int) + 1) ((j : Int) + 1) = _
      unfold s_l01Cut_b3
      rw [siz, decide_eq_false (by omega), bsel_false]
  | k + 1, i, j, L, hj, hij, hL, hc => by
    have ap : apok 16 L.length 1 = true := by simp only [apok, Bool.and_eq_true, decide_eq_true_eq]; omega
    have hlt : j < (byt a0).length := by omega
    obtain ⟨b, hb⟩ : ∃ b, (byt a0)[j]? = some b := ⟨_, List.getElem?_eq_getElem hlt⟩
    by_cases hbc : b = c
    · have e : s_l01Cut_s3 a0 (c.toNat : Int) (L, (i : Int), (j : Int)) = some (.next (L ++ [mkS (((byt a0).drop i).take (j - i))], ((j + 1 : Nat) : Int), ((j + 1 : Nat) : Int))) := by
        show s_l01Cut_b3 a0 (c.toNat : Int) L (i : Int) (j : Int) = _
        unfold s_l01Cut_b3 s_l01Cut_k2
        rw [siz, decide_eq_true (by omega), bsel_true, decide_eq_false (by omega), bsel_false, sat_mk hb, obind_eq, hbc, decide_eq_true rfl, bsel_true, subs_mk hij (by omega), obind_eq, ap, need_true]
        simp only [olet_eq]
        rw [wi64 (by omega) (by omega)]; rfl
      rw [loopM_next e, cut_loop hn k (j + 1) (j + 1) _ (by omega) (Nat.le_refl _) (by simp; omega) (by simp)]
      have hd : (byt a0).drop i = ((byt a0).drop i).take (j - i) ++ c :: (byt a0).drop (j + 1) := by
        conv => lhs; rw [pieceDrop hij]
        rw [List.drop_eq_getElem_cons hlt]
        have : (byt a0)[j] = c := by rw [List.getElem?_eq_getElem hlt] at hb; rw [Option.some.inj hb, hbc]
        rw [this]
      conv => rhs; rw [hd, cutL_hit hc]
      simp
    · have hne : ¬ ((b.toNat : Int) = (c.toNat : Int)) := fun e => hbc (UInt8.toNat_inj.1 (by omega))
      have e : s_l01Cut_s3 a0 (c.toNat : Int) (L, (i : Int), (j : Int)) = some (.next (L, (i : Int), ((j + 1 : Nat) : Int))) := by
        show s_l01Cut_b3 a0 (c.toNat : Int) L (i : Int) (j : Int) = _
        unfold s_l01Cut_b3 s_l01Cut_k2
        rw [siz, decide_eq_true (by omega), bsel_true, decide_eq_false (by omega), bsel_false, sat_mk hb, obind_eq, decide_eq_false hne, bsel_false]
        simp only [olet_eq]
        rw [wi64 (by omega) (by omega)]; rfl
      rw [loopM_next e, cut_loop hn k i (j + 1) L (by omega) (by omega) (by omega) (by
        rw [bytePiece hij hb]
        simp only [List.mem_append, List.mem_singleton, not_or]
        exact ⟨hc, fun e => hbc e.symm⟩)]
theorem s_cut_eq {a0 : ByteArray} {c : UInt8} (hn : (byt a0).length ≤ 2000000) : s_l01Cut a0 (c.toNat : Int) = some ((cutL c (byt a0)).map mkS) := by
  unfold s_l01Cut
  have e := cut_loop (c := c) hn (byt a0).length 0 0 [] (by omega) (Nat.le_refl _) (Nat.le_refl _) (by simp)
  have e : loopM (s_l01Cut_s3 a0 (c.toNat : Int)) ([], 0, 0) = some (.inl ([] ++ (cutL c ((byt a0).drop 0)).map mkS)) := e
  rw [e]; rfl
theorem natAbs_digit (v : Int) (hv : v.natAbs ≤ 9223372036854775808) : (v.tmod 10 < 0 → IntKind.i64.wrap (0 - v.tmod 10) = ((v.natAbs % 10 : Nat) : Int)) ∧ (¬ v.tmod 10 < 0 → v.tmod 10 = ((v.natAbs % 10 : Nat) : Int)) := by
  have h : (v.tmod 10).natAbs = v.natAbs % 10 := Int.natAbs_tmod v 10
  have h9 : v.natAbs % 10 < 10 := Nat.mod_lt _ (by decide)
  constructor
  · intro hn
    rw [wi64 (by omega) (by omega)]; omega
  · intro hn; omega
theorem natAbs_next (v : Int) : (v.tdiv 10).natAbs = v.natAbs / 10 := Int.natAbs_tdiv v 10
theorem u8_wrap {n : Int} (h0 : 0 ≤ n) (h1 : n < 256) : IntKind.u8.wrap n = n := by
  simp only [IntKind.wrap, IntKind.bits, IntKind.signed]
  simp
  omega
def decI (u : Nat) : List Int := (Go.Lib.decDigits u).map fun b => (b.toNat : Int)
def digI (u : Nat) : List Int := if u = 0 then [] else decI u
theorem decI_small {u : Nat} (h : u < 10) : decI u = [((48 + u : Nat) : Int)] := by
  unfold decI
  rw [Go.Lib.decDigits, dif_pos h]
  have : (UInt8.ofNat (48 + u)).toNat = 48 + u := by simp; omega
  show [((UInt8.ofNat (48 + u)).toNat : Int)] = _
  rw [this]
theorem decI_big {u : Nat} (h : ¬ u < 10) : decI u = decI (u / 10) ++ [((48 + u % 10 : Nat) : Int)] := by
  unfold decI
  conv => lhs; rw [Go.Lib.decDigits, dif_neg h]
  have : (UInt8.ofNat (48 + u % 10)).toNat = 48 + u % 10 := by simp; omega
  rw [List.map_append]
  show _ ++ [((UInt8.ofNat (48 + u % 10)).toNat : Int)] = _
  rw [this]
theorem digI_step {u : Nat} : decI u = digI (u / 10) ++ [((48 + u % 10 : Nat) : Int)] := by
  by_cases h : u < 10
  · rw [decI_small h, show u / 10 = 0 from by omega, show u % 10 = u from by omega]; rfl
  · rw [decI_big h]
    unfold digI
    rw [if_neg (by omega)]
theorem dec_step {l : List Int} {v : Int} (hl : l.length ≤ 100) (hv : v.natAbs ≤ 9223372036854775808) : s_l01Dec_k5 l v = some (.next (((48 + v.natAbs % 10 : Nat) : Int) :: l, v.tdiv 10)) := by
  obtain ⟨d1, d2⟩ := natAbs_digit v hv
  have h9 : v.natAbs % 10 < 10 := Nat.mod_lt _ (by decide)
  have hn := natAbs_next v
  have key : s_l01Dec_k6 l v ((v.natAbs % 10 : Nat) : Int) = some (.next (((48 + v.natAbs % 10 : Nat) : Int) :: l, v.tdiv 10)) := by
    unfold s_l01Dec_k6
    simp only [olet_eq]
    rw [wi64 (n := 48 + ((v.natAbs % 10 : Nat) : Int)) (by omega) (by omega), u8_wrap (by omega) (by omega), show apok 1 1 l.length = true from by simp only [apok, Bool.and_eq_true, decide_eq_true_eq]; omega, need_true, show (!decide (10 = 0)) = true from rfl, need_true, wi64 (by omega) (by omega)]
    simp
  unfold s_l01Dec_k5
  rw [show (!decide (10 = 0)) = true from rfl, need_true]
  simp only [olet_eq]
  by_cases h : v.tmod 10 < 0
  · rw [decide_eq_true h, bsel_true, d1 h, key]
  · rw [decide_eq_false h, bsel_false, d2 h, key]
theorem dec_loop : ∀ (k : Nat) (v : Int) (l : List Int), v.natAbs < 10 ^ k → v.natAbs ≤ 9223372036854775808 → 0 < l.length → l.length + k ≤ 100 → loopM s_l01Dec_s7 (l, v) = some (.inl (digI v.natAbs ++ l))
  | 0, v, l, h, _, hl, hk => by
    have hv : v.natAbs = 0 := by simpa using h
    have hv0 : v = 0 := by omega
    rw [loopM_out (e := l)]
    · rw [hv]; rfl
    · show s_l01Dec_b7 l v = _
      unfold s_l01Dec_b7
      rw [decide_eq_false (by omega), bsel_false, hv0]; rfl
  | k + 1, v, l, h, h64, hl, hk => by
    by_cases hv0 : v = 0
    · subst hv0
      rw [loopM_out (e := l)]
      · rfl
      · show s_l01Dec_b7 l 0 = _
        unfold s_l01Dec_b7
        rw [decide_eq_false (by omega), bsel_false]; rfl
    · have e : s_l01Dec_s7 (l, v) = some (.next (((48 + v.natAbs % 10 : Nat) : Int) :: l, v.tdiv 10)) := by
        show s_l01Dec_b7 l v = _
        unfold s_l01Dec_b7
        rw [decide_eq_false (by omega), bsel_false, decide_eq_false hv0, Bool.not_false, bsel_true, dec_step (by omega) h64]
      rw [loopM_next e, dec_loop k _ _ (by rw [natAbs_next]; rw [Nat.pow_succ] at h; omega) (by rw [natAbs_next]; omega) (by simp) (by simp; omega), natAbs_next]
      have : digI v.natAbs = decI v.natAbs := by unfold digI; rw [if_neg (by omega)]
      rw [this, digI_step]; simp
theorem str_decI (u : Nat) : (decI u).map (fun n => UInt8.ofNat n.toNat) = Go.Lib.decDigits u := by
  unfold decI
  rw [List.map_map]
  conv => rhs; rw [← List.map_id (Go.Lib.decDigits u)]
  exact List.map_congr_left fun b _ => by simp
theorem decI_len (u : Nat) (h : u < 10 ^ 20) : (decI u).length ≤ 20 := by
  have key : ∀ (k u : Nat), u < 10 ^ (k + 1) → (decI u).length ≤ k + 1 := by
    intro k
    induction k with
    | zero => intro u h; rw [decI_small (by simpa using h)]; simp
    | succ k ih =>
      intro u h
      by_cases hs : u < 10
      · rw [decI_small hs]; simp
      · rw [decI_big hs]
        have := ih (u / 10) (by rw [Nat.pow_succ] at h; omega)
        simp; omega
  exact key 19 u h
theorem s_dec_eq {n : Int} (h : n.natAbs ≤ 9223372036854775808) : s_l01Dec n = some (mkS (Go.Lib.itoa n)) := by
  have h20 : n.natAbs < 10 ^ 20 := by have : (9223372036854775808 : Nat) < 10 ^ 20 := by decide
                                      omega
  have e : s_l01Dec_s7 ([], n) = some (.next ([((48 + n.natAbs % 10 : Nat) : Int)], n.tdiv 10)) := by
    show s_l01Dec_b7 [] n = _
    unfold s_l01Dec_b7
    rw [show decide ((([] : List Int).length : Int) = 0) = true from rfl, bsel_true, dec_step (by simp) h]
  have l2 : loopM s_l01Dec_s7 ([], n) = some (.inl (decI n.natAbs)) := by
    rw [loopM_next e, dec_loop 20 _ _ (by rw [natAbs_next]; omega) (by rw [natAbs_next]; omega) (by simp) (by simp), natAbs_next, digI_step]
  have hd := decI_len n.natAbs h20
  unfold s_l01Dec
  rw [l2]
  show s_l01Dec_k7 n (decI n.natAbs) = _
  unfold s_l01Dec_k7 s_l01Dec_k8
  by_cases hn : n < 0
  · rw [decide_eq_true hn, bsel_true, show apok 1 1 (decI n.natAbs).length = true from by simp only [apok, Bool.and_eq_true, decide_eq_true_eq]; omega, need_true]
    unfold Go.Lib.itoa
    rw [if_pos hn]
    unfold strOfNums mkS
    rw [List.map_append, str_decI]; rfl
  · rw [decide_eq_false hn, bsel_false]
    unfold Go.Lib.itoa
    rw [if_neg hn]
    unfold strOfNums mkS
    rw [str_decI, show n.natAbs = n.toNat from by omega]
theorem i_dec_eq {n : Int} (h0 : -9223372036854775808 ≤ n) (h1 : n ≤ 9223372036854775807) : i_Decimal n = some (mkS (Go.Lib.itoa n)) := by
  unfold i_Decimal x_strconv_FormatInt
  rw [show decide ((10 : Int) = 10) = true from rfl, need_true, decide_eq_true h0, need_true, decide_eq_true h1, need_true]; rfl
theorem idx_at {c : UInt8} {q : List UInt8} : ∀ {p : List UInt8}, c ∉ p → Go.Lib.indexByte (p ++ c :: q) c = (p.length : Int)
  | [], _ => by
    show Go.Lib.indexByte (c :: q) c = _
    unfold Go.Lib.indexByte
    rw [if_pos (by simp)]; rfl
  | b :: l, h => by
    have hb : b ≠ c := fun e => h (by simp [e])
    have hl : c ∉ l := fun e => h (by simp [e])
    show Go.Lib.indexByte (b :: (l ++ c :: q)) c = _
    unfold Go.Lib.indexByte
    rw [if_neg (by simp [hb]), idx_at hl, if_neg (by simp)]; simp
theorem x_index_one {s sep : ByteArray} {b : UInt8} (h1 : byt sep = [b]) : x_internal_stringslite_Index s sep = some (Go.Lib.indexByte (byt s) b) := by
  have hz : (sep.size : Int) = 1 := by rw [siz, h1]; rfl
  unfold x_internal_stringslite_Index
  rw [hz, decide_eq_false (by omega), bsel_false, eqs_iff]
  by_cases h : byt sep = byt s
  · rw [decide_eq_true h, bsel_true, ← h, h1]
    have := idx_at (c := b) (q := []) (p := []) (by simp)
    exact congrArg some this.symm
  · rw [decide_eq_false h, bsel_false, decide_eq_true rfl, bsel_true]
    have hs : sat? sep 0 = some (b.toNat : Int) := sat_mk (i := 0) (by rw [h1]; rfl)
    rw [hs, obind_eq]
    unfold x_internal_stringslite_IndexByte idxB
    rw [obind_eq, show ((b.toNat : Int)).toNat.toUInt8 = b from by simp]; rfl
theorem cut_hit {s sep : ByteArray} {b : UInt8} (h1 : byt sep = [b]) {p q : List UInt8} (e : byt s = p ++ b :: q) (hp : b ∉ p) (hs : (byt s).length ≤ 3000000) : x_strings_Cut s sep = some (mkS p, mkS q, true) := by
  have hl : (byt s).length = p.length + 1 + q.length := by rw [e]; simp; omega
  have hz : (sep.size : Int) = 1 := by rw [siz, h1]; rfl
  have k1 : subs? s 0 ((p.length : Nat) : Int) = some (mkS p) := by
    have := subs_mk (s := s) (i := 0) (j := p.length) (by omega) (by omega)
    rw [show ((0 : Nat) : Int) = 0 from rfl] at this
    rw [this, List.drop_zero, e]; simp
  have k2 : subs? s ((p.length : Int) + 1) (s.size : Int) = some (mkS q) := by
    have := subs_mk (s := s) (i := p.length + 1) (j := (byt s).length) (by omega) (by omega)
    rw [siz, show ((p.length : Int) + 1) = ((p.length + 1 : Nat) : Int) from by omega, this, e]
    have d : (p ++ b :: q).drop (p.length + 1) = q := by simp [List.drop_append]
    rw [d, List.take_of_length_le (by simp; omega)]
  unfold x_strings_Cut x_internal_stringslite_Cut
  rw [x_index_one h1, obind_eq, e, idx_at hp, decide_eq_true (by omega), bsel_true, k1, obind_eq]
  simp only [olet_eq]
  rw [hz, wi64 (by omega) (by omega), k2, obind_eq, obind3_eq]
theorem cut_miss {s sep : ByteArray} {b : UInt8} (h1 : byt sep = [b]) (h : b ∉ byt s) : x_strings_Cut s sep = some (s, lit_99ba06bc, false) := by
  unfold x_strings_Cut x_internal_stringslite_Cut
  rw [x_index_one h1, obind_eq, idx_miss h, decide_eq_false (by omega), bsel_false, obind3_eq]
theorem has_split {c : UInt8} {l : List UInt8} (h : c ∈ l) : ∃ p q, l = p ++ c :: q ∧ c ∉ p := by
  obtain ⟨p, q, e1, e2, _⟩ := idx_hit h
  exact ⟨p, q, e1, e2⟩
theorem cats_mk {a b : List UInt8} (h : a.length + b.length ≤ 1000000000) : cats? (mkS a) (mkS b) = some (mkS (a ++ b)) := by
  unfold cats?
  rw [if_pos (by rw [siz, siz, byt_mk, byt_mk]; omega)]
  refine congrArg some ?_
  rw [← mk_byt (mkS a ++ mkS b)]
  refine congrArg mkS ?_
  show (mkS a ++ mkS b).data.toList = _
  simp [mkS]
theorem drop_at {α : Type} {l : List α} {j : Nat} {x : α} (h : l[j]? = some x) : l.drop j = x :: l.drop (j + 1) := by
  have hj := lt_of_getElem? h
  rw [List.drop_eq_getElem_cons hj]
  rw [List.getElem?_eq_getElem hj] at h
  rw [Option.some.inj h]
theorem dec_digits : ∀ (u : Nat) (b : UInt8), b ∈ Go.Lib.decDigits u → 48 ≤ b.toNat ∧ b.toNat ≤ 57 := by
  intro u
  induction u using Nat.strongRecOn with
  | ind u ih =>
    intro b hb
    rw [Go.Lib.decDigits] at hb
    by_cases h : u < 10
    · rw [dif_pos h] at hb
      have hb := List.mem_singleton.1 hb
      subst hb
      have : (UInt8.ofNat (48 + u)).toNat = 48 + u := by simp; omega
      omega
    · rw [dif_neg h] at hb
      rcases List.mem_append.1 hb with hb | hb
      · exact ih (u / 10) (by omega) b hb
      · have hb := List.mem_singleton.1 hb
        subst hb
        have : (UInt8.ofNat (48 + u % 10)).toNat = 48 + u % 10 := by simp; omega
        omega
theorem dec_ne (u : Nat) : Go.Lib.decDigits u ≠ [] := by
  rw [Go.Lib.decDigits]
  split <;> simp
theorem dec_length : ∀ (k u : Nat), u < 10 ^ (k + 1) → (Go.Lib.decDigits u).length ≤ k + 1
  | 0, u, h => by
    rw [Go.Lib.decDigits, dif_pos (by simpa using h)]; simp
  | k + 1, u, h => by
    rw [Go.Lib.decDigits]
    by_cases hs : u < 10
    · rw [dif_pos hs]; simp
    · rw [dif_neg hs]
      have := dec_length k (u / 10) (by rw [Nat.pow_succ] at h; omega)
      simp; omega
theorem parse_dec : ∀ (u : Nat) (r : List UInt8), u ≤ 10000000000000000 → Go.Lib.parseUintM (2 ^ 64 - 1) 0 (Go.Lib.decDigits u ++ r) = Go.Lib.parseUintM (2 ^ 64 - 1) u r := by
  intro u
  induction u using Nat.strongRecOn with
  | ind u ih =>
    intro r hu
    rw [Go.Lib.decDigits]
    by_cases h : u < 10
    · have e : (UInt8.ofNat (48 + u)).toNat = 48 + u := by simp; omega
      rw [dif_pos h]
      show Go.Lib.parseUintM (2 ^ 64 - 1) 0 (UInt8.ofNat (48 + u) :: r) = _
      conv => lhs; unfold Go.Lib.parseUintM
      rw [e, if_pos (by omega), if_neg (by omega), if_neg (by omega)]
      congr 1; omega
    · have e : (UInt8.ofNat (48 + u % 10)).toNat = 48 + u % 10 := by simp; omega
      rw [dif_neg h, List.append_assoc, ih (u / 10) (by omega) _ (by omega)]
      show Go.Lib.parseUintM (2 ^ 64 - 1) (u / 10) (UInt8.ofNat (48 + u % 10) :: r) = _
      conv => lhs; unfold Go.Lib.parseUintM
      rw [e, if_pos (by omega), if_neg (by omega), if_neg (by omega)]
      congr 1; omega
theorem parseB_dec {u : Nat} (hu : u ≤ 10000000000000000) : Go.Lib.parseUintB 64 (Go.Lib.decDigits u) = .ok u := by
  unfold Go.Lib.parseUintB
  rw [if_neg (dec_ne u)]
  have := parse_dec u [] hu
  rw [List.append_nil] at this
  rw [this]; rfl
theorem parse_itoa {n : Int} (h : n.natAbs ≤ 10000000000000000) : Go.Lib.parseIntB 64 (Go.Lib.itoa n) = .ok n := by
  unfold Go.Lib.itoa
  by_cases hn : n < 0
  · rw [if_pos hn, Go.Lib.parseIntB_minus, parseB_dec h]
    unfold Go.Lib.signedC
    simp only
    rw [if_neg (by omega)]
    congr 1; omega
  · rw [if_neg hn]
    have hp := parseB_dec (u := n.toNat) (by omega)
    cases hd : Go.Lib.decDigits n.toNat with
    | nil => exact absurd hd (dec_ne _)
    | cons c r =>
      have hc := dec_digits n.toNat c (by rw [hd]; simp)
      rw [hd] at hp
      rw [Go.Lib.parseIntB_plain 64 c r (by omega) (by omega), hp]
      unfold Go.Lib.signlessC
      simp only
      rw [if_neg (by omega)]
      congr 1; omega
def vF (acc : Int) : List UInt8 → Int
  | [] => acc
  | b :: l => vF (if 48 ≤ b.toNat ∧ b.toNat ≤ 57 then 10 * acc + ((b.toNat : Int) - 48) else acc) l
theorem vF_dec : ∀ (u : Nat) (r : List UInt8), vF 0 (Go.Lib.decDigits u ++ r) = vF u r := by
  intro u
  induction u using Nat.strongRecOn with
  | ind u ih =>
    intro r
    rw [Go.Lib.decDigits]
    by_cases h : u < 10
    · have e : (UInt8.ofNat (48 + u)).toNat = 48 + u := by simp; omega
      rw [dif_pos h]
      show vF 0 (UInt8.ofNat (48 + u) :: r) = _
      conv => lhs; unfold vF
      rw [e, if_pos (by omega)]
      congr 1; omega
    · have e : (UInt8.ofNat (48 + u % 10)).toNat = 48 + u % 10 := by simp; omega
      rw [dif_neg h, List.append_assoc, ih (u / 10) (by omega)]
      show vF ((u / 10 : Nat) : Int) (UInt8.ofNat (48 + u % 10) :: r) = _
      conv => lhs; unfold vF
      rw [e, if_pos (by omega)]
      congr 1; omega
theorem vF_itoa (n : Int) : (if (Go.Lib.itoa n).head?.map (fun b => b.toNat) = some 45 then -(vF 0 (Go.Lib.itoa n)) else vF 0 (Go.Lib.itoa n)) = n := by
  unfold Go.Lib.itoa
  by_cases hn : n < 0
  · rw [if_pos hn]
    have h0 : vF 0 (45 :: Go.Lib.decDigits n.natAbs) = vF 0 (Go.Lib.decDigits n.natAbs) := rfl
    have := vF_dec n.natAbs []
    rw [List.append_nil] at this
    rw [if_pos (by rfl), h0, this]
    show -(((n.natAbs : Nat) : Int)) = n
    omega
  · rw [if_neg hn]
    have := vF_dec n.toNat []
    rw [List.append_nil] at this
    rw [this]
    have hh : ¬ (Go.Lib.decDigits n.toNat).head?.map (fun b => b.toNat) = some 45 := by
      cases hd : Go.Lib.decDigits n.toNat with
      | nil => exact absurd hd (dec_ne _)
      | cons c r =>
        have hc := dec_digits n.toNat c (by rw [hd]; simp)
        simp; omega
    rw [if_neg hh]
    show ((n.toNat : Nat) : Int) = n
    omega
theorem itoa_len17 {n : Int} (h : n.natAbs ≤ 1000000000000000) : 1 ≤ (Go.Lib.itoa n).length ∧ (Go.Lib.itoa n).length ≤ 17 := by
  have h1 := dec_length 15 n.natAbs (by have : (10 : Nat) ^ (15 + 1) = 10000000000000000 := by decide
                                        omega)
  have h2 : 0 < (Go.Lib.decDigits n.natAbs).length := List.length_pos_iff.2 (dec_ne _)
  unfold Go.Lib.itoa
  split
  · simp; omega
  · rw [show n.toNat = n.natAbs from by omega]; omega
theorem cm_size : (lit_be717853.size : Int) = 1 := rfl
theorem cm_sat : sat? lit_be717853 0 = some 44 := rfl
theorem x_index_cm (s : ByteArray) : x_strings_Index s lit_be717853 = some (Go.Lib.indexByte (byt s) 44) := by
  unfold x_strings_Index x_internal_stringslite_Index
  rw [cm_size, decide_eq_false (by omega), bsel_false, eqs_iff]
  by_cases h : byt lit_be717853 = byt s
  · rw [decide_eq_true h, bsel_true, ← h]; rfl
  · rw [decide_eq_false h, bsel_false, decide_eq_true rfl, bsel_true, cm_sat, obind_eq]; rfl
theorem split_loopC : ∀ (r : Nat) (D : List ByteArray) (s : ByteArray), (byt s).count 44 = r → D.length + r ≤ 2000000 → (byt s).length ≤ 2000000 →
    ∃ e, loopM (x_strings_genSplit_s2 lit_be717853 0 ((D.length + r : Nat) : Int)) (D ++ List.replicate (r + 1) lit_99ba06bc, s, (D.length : Int)) = some (.inl e) ∧ x_strings_genSplit_k2 e.1 e.2.1 e.2.2 = some (D ++ (cutL 44 (byt s)).map mkS)
  | 0, D, s, hc, hD, hs => by
    refine ⟨(D ++ List.replicate 1 lit_99ba06bc, s, (D.length : Int)), ?_, ?_⟩
    · refine loopM_out ?_
      show x_strings_genSplit_b2 _ _ ((D.length + 0 : Nat) : Int) _ _ (D.length : Int) = _
      unfold x_strings_genSplit_b2
      rw [decide_eq_false (by omega), bsel_false]
    · have hno : (44 : UInt8) ∉ byt s := List.count_eq_zero.1 hc
      show x_strings_genSplit_k2 (D ++ List.replicate 1 lit_99ba06bc) s (D.length : Int) = _
      unfold x_strings_genSplit_k2
      rw [setAt?_of (by omega) (by simp), obind_eq, cutL_none hno]
      simp only [olet_eq]
      rw [wi64 (by omega) (by omega)]
      have e : (D ++ List.replicate 1 lit_99ba06bc).set ((D.length : Nat) : Int).toNat s = D ++ [s] := by
        rw [show ((D.length : Nat) : Int).toNat = D.length from by omega]; simp
      rw [e]
      have e2 : sub? (D ++ [s]) 0 ((D.length : Int) + 1) = some (D ++ [s]) := by
        unfold sub?
        rw [if_pos ⟨by omega, by omega, by simp⟩]
        simp only [Int.toNat_zero, List.drop_zero]
        rw [List.take_of_length_le (by simp)]
      rw [e2]; simp [mk_byt, obind_eq]
  | r + 1, D, s, hc, hD, hs => by
    have hin : (44 : UInt8) ∈ byt s := List.count_pos_iff.1 (by omega)
    obtain ⟨p, q, e1, e2, e3⟩ := idx_hit hin
    have hl : (byt s).length = p.length + 1 + q.length := by rw [e1]; simp; omega
    have hcq : q.count 44 = r := by
      rw [e1, List.count_append, List.count_cons_self, List.count_eq_zero.2 e2] at hc; omega
    obtain ⟨e, h1, h2⟩ := split_loopC r (D ++ [mkS p]) (mkS q) (by rw [byt_mk]; exact hcq) (by simp; omega) (by rw [byt_mk]; omega)
    refine ⟨e, ?_, ?_⟩
    · have st : x_strings_genSplit_s2 lit_be717853 0 ((D.length + (r + 1) : Nat) : Int) (D ++ List.replicate (r + 1 + 1) lit_99ba06bc, s, (D.length : Int)) = some (.next ((D ++ [mkS p]) ++ List.replicate (r + 1) lit_99ba06bc, mkS q, (((D ++ [mkS p]).length : Nat) : Int))) := by
        show x_strings_genSplit_b2 _ _ ((D.length + (r + 1) : Nat) : Int) _ _ (D.length : Int) = _
        unfold x_strings_genSplit_b2
        rw [decide_eq_true (by omega), bsel_true, x_index_cm, obind_eq, e3, decide_eq_false (by omega), bsel_false]
        simp only [olet_eq]
        rw [wi64 (by omega) (by omega), show ((p.length : Nat) : Int) + 0 = ((p.length : Nat) : Int) from by omega]
        have k1 : subs? s 0 ((p.length : Nat) : Int) = some (mkS p) := by
          have := subs_mk (s := s) (i := 0) (j := p.length) (by omega) (by omega)
          rw [show ((0 : Nat) : Int) = 0 from rfl] at this
          rw [this, List.drop_zero, e1]; simp
        rw [k1, obind_eq, setAt?_of (by omega) (by simp), obind_eq, cm_size, wi64 (by omega) (by omega)]
        have k2 : subs? s ((p.length : Int) + 1) (s.size : Int) = some (mkS q) := by
          have := subs_mk (s := s) (i := p.length + 1) (j := (byt s).length) (by omega) (by omega)
          rw [siz, show ((p.length : Int) + 1) = ((p.length + 1 : Nat) : Int) from by omega, this, e1]
          have d : (p ++ 44 :: q).drop (p.length + 1) = q := by simp [List.drop_append]
          rw [d, List.take_of_length_le (by simp; omega)]
        rw [k2, obind_eq, wi64 (by omega) (by omega)]
        have e : (D ++ List.replicate (r + 1 + 1) lit_99ba06bc).set ((D.length : Nat) : Int).toNat (mkS p) = (D ++ [mkS p]) ++ List.replicate (r + 1) lit_99ba06bc := by
          rw [show ((D.length : Nat) : Int).toNat = D.length from by omega, List.replicate_succ]; simp
        rw [e]
        have e4 : (((D ++ [mkS p]).length : Nat) : Int) = (D.length : Int) + 1 := by simp
        rw [e4]
      rw [loopM_next st]
      rw [show D.length + (r + 1) = (D ++ [mkS p]).length + r from by simp; omega]
      exact h1
    · rw [h2, byt_mk, e1, cutL_hit e2]; simp
theorem x_split_cm {s : ByteArray} (h : (byt s).length ≤ 1048576) : x_strings_Split s lit_be717853 = some ((cutL 44 (byt s)).map mkS) := by
  have hcn : (byt s).count 44 ≤ (byt s).length := List.count_le_length
  obtain ⟨e, h1, h2⟩ := split_loopC ((byt s).count 44) [] s rfl (by simp; omega) (by omega)
  have cnt : x_strings_Count s lit_be717853 = some (((byt s).count 44 : Nat) : Int) := by
    unfold x_strings_Count
    rw [cm_size, decide_eq_false (by omega), bsel_false, decide_eq_true rfl, bsel_true, cm_sat, obind_eq]; rfl
  have mn : imin (((byt s).count 44 : Nat) + 1) ((s.size : Int) + 1) = ((byt s).count 44 : Nat) + 1 := by
    unfold imin; rw [if_neg (by rw [siz]; omega)]
  unfold x_strings_Split x_strings_genSplit
  rw [decide_eq_false (by omega), bsel_false, show eqs lit_be717853 lit_99ba06bc = false from rfl, bsel_false, decide_eq_true (by omega), bsel_true, cnt, obind_eq]
  simp only [olet_eq]
  rw [wi64 (by omega) (by omega)]
  unfold x_strings_genSplit_k1
  simp only [olet_eq]
  rw [wi64 (n := (s.size : Int) + 1) (by omega) (by rw [siz]; omega), mn, show mkok 16 (((byt s).count 44 : Nat) + 1) = true from by simp only [mkok, Bool.and_eq_true, decide_eq_true_eq]; omega, need_true, wi64 (by omega) (by omega)]
  have g : ((((byt s).count 44 : Nat) : Int) + 1 - 1) = ((([] : List ByteArray).length + (byt s).count 44 : Nat) : Int) := by simp
  rw [g, show ((((byt s).count 44 : Nat) : Int) + 1).toNat = (byt s).count 44 + 1 from by omega]
  have h1 : loopM (x_strings_genSplit_s2 lit_be717853 0 ((([] : List ByteArray).length + (byt s).count 44 : Nat) : Int)) (List.replicate ((byt s).count 44 + 1) lit_99ba06bc, s, 0) = some (.inl e) := h1
  rw [h1]
  simp only [obind_eq, osum]
  rw [h2]; rfl
theorem itoa_inj {n m : Int} (hn : n.natAbs ≤ 1000000000000000) (hm : m.natAbs ≤ 1000000000000000) (h : Go.Lib.itoa n = Go.Lib.itoa m) : n = m := by
  have h1 := parse_itoa (n := n) (by omega)
  have h2 := parse_itoa (n := m) (by omega)
  rw [h, h2] at h1
  injection h1 with h1
  exact h1.symm
open Classical in
noncomputable def rd (s : List UInt8) : Option Int := if h : ∃ n : Int, n.natAbs ≤ 1000000000000000 ∧ s = Go.Lib.itoa n then some h.choose else none
theorem rd_some {s : List UInt8} {n : Int} (hn : n.natAbs ≤ 1000000000000000) (h : s = Go.Lib.itoa n) : rd s = some n := by
  have hex : ∃ n : Int, n.natAbs ≤ 1000000000000000 ∧ s = Go.Lib.itoa n := ⟨n, hn, h⟩
  unfold rd
  rw [dif_pos hex]
  exact congrArg some (itoa_inj hex.choose_spec.1 hn (hex.choose_spec.2.symm.trans h))
theorem rd_none {s : List UInt8} (h : ¬ ∃ n : Int, n.natAbs ≤ 1000000000000000 ∧ s = Go.Lib.itoa n) : rd s = none := by
  unfold rd; rw [dif_neg h]
noncomputable def rdv (s : List UInt8) : Int × Bool := match rd s with
  | some n => (n, true)
  | none => (0, false)
theorem val_loop {s : ByteArray} : ∀ (k j v : Nat), j + k = (byt s).length → (byt s).length ≤ 17 → (v + 1) * 10 ^ k ≤ 100000000000000000 →
    ∃ r : Nat, loopM (s_l01Value_s3 s) ((v : Int), (j : Int)) = some (.inl (r : Int)) ∧ (r : Int) = vF (v : Int) ((byt s).drop j) ∧ r ≤ 100000000000000000
  | 0, j, v, hj, hl, hv => by
    refine ⟨v, loopM_out ?_, ?_, by omega⟩
    · show s_l01Value_b3 s (v : Int) (j : Int) = _
      unfold s_l01Value_b3
      rw [siz, decide_eq_false (by omega), bsel_false]
    · rw [List.drop_eq_nil_of_le (by omega)]; rfl
  | k + 1, j, v, hj, hl, hv => by
    obtain ⟨b, hb⟩ : ∃ b, (byt s)[j]? = some b := ⟨_, List.getElem?_eq_getElem (by omega)⟩
    have hb2 : b.toNat < 256 := b.toNat_lt
    have hp : 0 < 10 ^ k := Nat.pow_pos (by decide)
    have hpw : (10 * v + 10) * 10 ^ k = (v + 1) * 10 ^ (k + 1) := by rw [Nat.pow_succ, show 10 * v + 10 = (v + 1) * 10 from by omega, Nat.mul_assoc, Nat.mul_comm 10]
    have hv2 : v ≤ 100000000000000000 := by
      have : (v + 1) * 1 ≤ (v + 1) * 10 ^ (k + 1) := Nat.mul_le_mul_left _ (Nat.pow_pos (by decide))
      omega
    have hd : (byt s).drop j = b :: (byt s).drop (j + 1) := drop_at hb
    by_cases hc : 48 ≤ b.toNat ∧ b.toNat ≤ 57
    · have hn : (10 * v + (b.toNat - 48) + 1) * 10 ^ k ≤ 100000000000000000 := by
        have : (10 * v + (b.toNat - 48) + 1) * 10 ^ k ≤ (10 * v + 10) * 10 ^ k := Nat.mul_le_mul_right _ (by omega)
        omega
      obtain ⟨r, h1, h2, h3⟩ := val_loop (s := s) k (j + 1) (10 * v + (b.toNat - 48)) (by omega) hl hn
      have e : s_l01Value_s3 s ((v : Int), (j : Int)) = some (.next (((10 * v + (b.toNat - 48) : Nat) : Int), ((j + 1 : Nat) : Int))) := by
        show s_l01Value_b3 s (v : Int) (j : Int) = _
        unfold s_l01Value_b3 s_l01Value_k2
        rw [siz, decide_eq_true (by omega), bsel_true, sat_mk hb]
        simp only [obind_eq, olet_eq]
        rw [decide_eq_true (by omega), bsel_true, decide_eq_true (by omega), bsel_true, u8_wrap (n := (b.toNat : Int) - 48) (by omega) (by omega), wi64 (n := (b.toNat : Int) - 48) (by omega) (by omega), wi64 (n := 10 * (v : Int)) (by omega) (by omega), wi64 (n := 10 * (v : Int) + ((b.toNat : Int) - 48)) (by omega) (by omega), wi64 (n := (j : Int) + 1) (by omega) (by omega)]
        have e1 : ((10 * v + (b.toNat - 48) : Nat) : Int) = 10 * (v : Int) + ((b.toNat : Int) - 48) := by omega
        rw [e1]; rfl
      refine ⟨r, by rw [loopM_next e]; exact h1, ?_, h3⟩
      rw [h2, hd]
      conv => rhs; unfold vF
      rw [if_pos hc]
      have e1 : ((10 * v + (b.toNat - 48) : Nat) : Int) = 10 * (v : Int) + ((b.toNat : Int) - 48) := by omega
      rw [e1]
    · have hn : (v + 1) * 10 ^ k ≤ 100000000000000000 := by
        have : (v + 1) * 10 ^ k ≤ (v + 1) * 10 ^ (k + 1) := Nat.mul_le_mul_left _ (Nat.pow_le_pow_right (by decide) (by omega))
        omega
      obtain ⟨r, h1, h2, h3⟩ := val_loop (s := s) k (j + 1) v (by omega) hl hn
      have e : s_l01Value_s3 s ((v : Int), (j : Int)) = some (.next ((v : Int), ((j + 1 : Nat) : Int))) := by
        show s_l01Value_b3 s (v : Int) (j : Int) = _
        unfold s_l01Value_b3 s_l01Value_k2
        rw [siz, decide_eq_true (by omega), bsel_true, sat_mk hb]
        simp only [obind_eq, olet_eq]
        rw [wi64 (n := (j : Int) + 1) (by omega) (by omega)]
        by_cases h48 : 48 ≤ b.toNat
        · rw [decide_eq_true (by omega), bsel_true, decide_eq_false (by omega), bsel_false]; rfl
        · rw [decide_eq_false (by omega), bsel_false]; rfl
      refine ⟨r, by rw [loopM_next e]; exact h1, ?_, h3⟩
      rw [h2, hd]
      conv => rhs; unfold vF
      rw [if_neg hc]
theorem s_value_k4 {s : ByteArray} {n : Int} (hn : n.natAbs ≤ 100000000000000000) (h : ∀ m : Int, m.natAbs ≤ 1000000000000000 → byt s = Go.Lib.itoa m → n = m) : s_l01Value_k4 s n = some (rdv (byt s)) := by
  unfold s_l01Value_k4
  have ir : (decide (-1000000000000000 ≤ n) && decide (n ≤ 1000000000000000)) = inR (-1000000000000000) 1000000000000000 n := rfl
  rw [s_l00In_eq, obind_eq, ir]
  by_cases hr : inR (-1000000000000000) 1000000000000000 n = true
  · have hr2 : n.natAbs ≤ 1000000000000000 := by simp [inR] at hr; omega
    rw [hr, bsel_true, s_dec_eq (by omega), obind_eq, eqs_iff, byt_mk]
    by_cases he : Go.Lib.itoa n = byt s
    · rw [decide_eq_true he, Bool.not_true, bsel_false]
      unfold rdv
      rw [rd_some hr2 he.symm]
    · rw [decide_eq_false he, Bool.not_false, bsel_true]
      unfold rdv
      rw [rd_none (by
        rintro ⟨m, hm, e⟩
        have := h m hm e
        subst this
        exact he e.symm)]
  · rw [show inR (-1000000000000000) 1000000000000000 n = false from by simpa using hr, bsel_false]
    unfold rdv
    rw [rd_none (by
      rintro ⟨m, hm, e⟩
      have := h m hm e
      subst this
      apply hr
      simp [inR]; omega)]
theorem s_value_eq {s : ByteArray} : s_l01Value s = some (rdv (byt s)) := by
  unfold s_l01Value
  by_cases h1 : (s.size : Int) < 1
  · rw [decide_eq_true h1, bsel_true]
    unfold rdv
    rw [rd_none (by
      rintro ⟨m, hm, e⟩
      have := itoa_len17 hm
      rw [← e, ← siz] at this; omega)]
  · rw [decide_eq_false h1, bsel_false]
    by_cases h2 : 17 < (s.size : Int)
    · rw [decide_eq_true h2, bsel_true]
      unfold rdv
      rw [rd_none (by
        rintro ⟨m, hm, e⟩
        have := itoa_len17 hm
        rw [← e, ← siz] at this; omega)]
    · rw [decide_eq_false h2, bsel_false]
      have hl : (byt s).length ≤ 17 := by rw [← siz]; omega
      have hl1 : 1 ≤ (byt s).length := by rw [← siz]; omega
      obtain ⟨r, e1, e2, e3⟩ := val_loop (s := s) (byt s).length 0 0 (by omega) hl (by
        have : 10 ^ (byt s).length ≤ 10 ^ 17 := Nat.pow_le_pow_right (by decide) hl
        have h17 : (10 : Nat) ^ 17 = 100000000000000000 := by decide
        omega)
      have e1 : loopM (s_l01Value_s3 s) (0, 0) = some (.inl (r : Int)) := e1
      rw [List.drop_zero] at e2
      have e2 : (r : Int) = vF 0 (byt s) := e2
      rw [e1]
      show s_l01Value_k3 s (r : Int) = _
      unfold s_l01Value_k3
      cases hb : byt s with
      | nil => rw [hb] at hl1; simp at hl1
      | cons b l =>
        have h0 : sat? s 0 = some (b.toNat : Int) := sat_mk (i := 0) (by rw [hb]; rfl)
        have key : ∀ m : Int, m.natAbs ≤ 1000000000000000 → byt s = Go.Lib.itoa m → (if b.toNat = 45 then -(r : Int) else (r : Int)) = m := by
          intro m hm e
          have := vF_itoa m
          rw [← e, ← e2, hb] at this
          simp only [List.head?_cons, Option.map_some, Option.some.injEq] at this
          exact this
        rw [h0, obind_eq, ← hb]
        by_cases h45 : b.toNat = 45
        · rw [decide_eq_true (by omega), bsel_true]
          simp only [olet_eq]
          rw [wi64 (by omega) (by omega), show (0 : Int) - (r : Int) = -(r : Int) from by omega]
          refine s_value_k4 (by omega) fun m hm e => ?_
          have := key m hm e
          rw [if_pos h45] at this; exact this
        · rw [decide_eq_false (by omega), bsel_false]
          refine s_value_k4 (by omega) fun m hm e => ?_
          have := key m hm e
          rw [if_neg h45] at this; exact this
theorem i_value_eq {s : ByteArray} (hs : (byt s).length ≤ 1048576) : i_ReadDecimal s = some (rdv (byt s)) := by
  unfold i_ReadDecimal x_strconv_ParseInt
  rw [show decide ((10 : Int) = 10) = true from rfl, need_true, show decide ((64 : Int) = 64) = true from rfl, need_true, decide_eq_true (by rw [siz]; omega), need_true]
  rw [show s.data.toList = byt s from rfl]
  have bad : (∀ v, Go.Lib.parseIntB 64 (byt s) ≠ .ok v) → rd (byt s) = none := fun h => rd_none (by
    rintro ⟨m, hm, e⟩
    exact h m (by rw [e]; exact parse_itoa (by omega)))
  cases hp : Go.Lib.parseIntB 64 (byt s) with
  | range =>
    unfold rdv
    rw [bad (fun v h => by rw [hp] at h; cases h)]; rfl
  | ok v =>
    simp only [obind_eq, osum]
    rw [i_inRange_eq, obind_eq]
    have ir : (decide (-1000000000000000 ≤ v) && decide (v ≤ 1000000000000000)) = inR (-1000000000000000) 1000000000000000 v := rfl
    rw [ir]
    by_cases hr : inR (-1000000000000000) 1000000000000000 v = true
    · have hr2 : v.natAbs ≤ 1000000000000000 := by simp [inR] at hr; omega
      rw [hr, bsel_true, i_dec_eq (by omega) (by omega), obind_eq, eqs_iff, byt_mk]
      by_cases he : Go.Lib.itoa v = byt s
      · rw [decide_eq_true he, Bool.not_true, bsel_false]
        unfold rdv
        rw [rd_some hr2 he.symm]
      · rw [decide_eq_false he, Bool.not_false, bsel_true]
        unfold rdv
        rw [rd_none (by
          rintro ⟨m, hm, e⟩
          have h2 := parse_itoa (n := m) (by omega)
          rw [← e, hp] at h2
          injection h2 with h2
          subst h2
          exact he e.symm)]
    · rw [show inR (-1000000000000000) 1000000000000000 v = false from by simpa using hr, bsel_false]
      unfold rdv
      rw [rd_none (by
        rintro ⟨m, hm, e⟩
        have h2 := parse_itoa (n := m) (by omega)
        rw [← e, hp] at h2
        injection h2 with h2
        subst h2
        apply hr
        simp [inR]; omega)]
  | _ =>
    unfold rdv
    rw [bad (fun v h => by rw [hp] at h; cases h)]; rfl
noncomputable def rdL : List (List UInt8) → Option (List Int)
  | [] => some []
  | p :: r => match rd p with
    | none => none
    | some n => match rdL r with
      | none => none
      | some l => some (n :: l)
noncomputable def rl (s : List UInt8) : Bool × List Int := if s = [110, 111, 110, 101] then (true, []) else match rdL (cutL 44 s) with
  | none => (false, [])
  | some l => if (cutL 44 s).length ≤ 64 then (true, l) else (false, [])
theorem part_len {c : UInt8} : ∀ {s p : List UInt8}, p ∈ cutL c s → p.length ≤ s.length
  | [], p, h => by simp [cutL] at h; subst h; simp
  | b :: l, p, h => by
    unfold cutL at h
    split at h
    · rcases List.mem_cons.1 h with e | e
      · subst e; simp
      · have := part_len e; simp; omega
    · cases hc : cutL c l with
      | nil => rw [hc] at h; simp at h; subst h; simp
      | cons x y =>
        rw [hc] at h
        rcases List.mem_cons.1 h with e | e
        · subst e
          have := part_len (c := c) (s := l) (p := x) (by rw [hc]; simp)
          simp; omega
        · have := part_len (c := c) (s := l) (p := p) (by rw [hc]; simp [e])
          simp; omega
theorem s_list_loop {P : List (List UInt8)} (hP : P.length ≤ 64) : ∀ (k j : Nat) (L : List Int), j + k = P.length → L.length ≤ j →
    loopM (s_l01Numbers_s1 (P.map mkS)) (L, (j : Int)) = some (match rdL (P.drop j) with | none => .inr (false, []) | some l => .inl (L ++ l))
  | 0, j, L, hj, hL => by
    have hd : P.drop j = [] := List.drop_eq_nil_of_le (by omega)
    rw [hd, loopM_out (e := L)]
    · simp [rdL]
    · show s_l01Numbers_b1 (P.map mkS) L (j : Int) = _
      unfold s_l01Numbers_b1
      rw [List.length_map, decide_eq_false (by omega), bsel_false]
  | k + 1, j, L, hj, hL => by
    obtain ⟨p, hp⟩ : ∃ p, P[j]? = some p := ⟨_, List.getElem?_eq_getElem (by omega)⟩
    have ha : at? (P.map mkS) (j : Int) = some (mkS p) := at?_of (by omega) (by rw [show (j : Int).toNat = j from by omega, List.getElem?_map, hp]; rfl)
    have hd := drop_at hp
    have body : s_l01Numbers_s1 (P.map mkS) (L, (j : Int)) = match rd p with | none => some (.ret (false, [])) | some n => some (.next (L ++ [n], ((j + 1 : Nat) : Int))) := by
      show s_l01Numbers_b1 (P.map mkS) L (j : Int) = _
      unfold s_l01Numbers_b1
      rw [List.length_map, decide_eq_true (by omega), bsel_true, ha, obind_eq, s_value_eq, byt_mk]
      unfold rdv
      cases rd p with
      | none => rfl
      | some n =>
        simp only [obind2_eq]
        rw [bsel_true, show apok 8 L.length 1 = true from by simp only [apok, Bool.and_eq_true, decide_eq_true_eq]; omega, need_true]
        simp only [olet_eq]
        rw [wi64 (by omega) (by omega)]; rfl
    rw [hd]
    unfold rdL
    cases hr : rd p with
    | none => rw [hr] at body; rw [loopM_ret body]
    | some n =>
      rw [hr] at body
      rw [loopM_next body, s_list_loop hP k (j + 1) _ (by omega) (by simp; omega)]
      cases rdL (P.drop (j + 1)) <;> simp
theorem i_list_loop {P : List (List UInt8)} (hP : P.length ≤ 2000000) (hl : ∀ p ∈ P, p.length ≤ 1048576) : ∀ (k j : Nat) (L : List Int), j + k = P.length → L.length = j → j ≤ 64 →
    loopM (i_ReadList_s1 (P.map mkS)) (L, (j : Int)) = some (match rdL (P.drop j) with | none => .inr (false, []) | some l => if P.length ≤ 64 then .inl (L ++ l) else .inr (false, []))
  | 0, j, L, hj, hL, h64 => by
    have hd : P.drop j = [] := List.drop_eq_nil_of_le (by omega)
    rw [hd, loopM_out (e := L)]
    · unfold rdL
      simp only
      rw [if_pos (by omega)]; simp
    · show i_ReadList_b1 (P.map mkS) L (j : Int) = _
      unfold i_ReadList_b1
      rw [List.length_map, decide_eq_false (by omega), bsel_false]
  | k + 1, j, L, hj, hL, h64 => by
    obtain ⟨p, hp⟩ : ∃ p, P[j]? = some p := ⟨_, List.getElem?_eq_getElem (by omega)⟩
    have ha : at? (P.map mkS) (j : Int) = some (mkS p) := at?_of (by omega) (by rw [show (j : Int).toNat = j from by omega, List.getElem?_map, hp]; rfl)
    have hd := drop_at hp
    have body : i_ReadList_s1 (P.map mkS) (L, (j : Int)) = match rd p with | none => some (.ret (false, [])) | some n => if j = 64 then some (.ret (false, [])) else some (.next (L ++ [n], ((j + 1 : Nat) : Int))) := by
      show i_ReadList_b1 (P.map mkS) L (j : Int) = _
      unfold i_ReadList_b1
      rw [List.length_map, decide_eq_true (by omega), bsel_true, ha, obind_eq, i_value_eq (by rw [byt_mk]; exact hl p (List.mem_of_getElem? hp)), byt_mk]
      unfold rdv
      cases rd p with
      | none => rfl
      | some n =>
        simp only [obind2_eq]
        rw [bsel_true]
        by_cases hj64 : j = 64
        · rw [decide_eq_true (by omega), bsel_true, if_pos hj64]
        · rw [decide_eq_false (by omega), bsel_false, if_neg hj64, show apok 8 L.length 1 = true from by simp only [apok, Bool.and_eq_true, decide_eq_true_eq]; omega, need_true]
          simp only [olet_eq]
          rw [wi64 (by omega) (by omega)]; rfl
    rw [hd]
    unfold rdL
    cases hr : rd p with
    | none => rw [hr] at body; rw [loopM_ret body]
    | some n =>
      rw [hr] at body
      simp only at body ⊢
      by_cases hj64 : j = 64
      · rw [if_pos hj64] at body
        rw [loopM_ret body]
        cases rdL (P.drop (j + 1)) with
        | none => rfl
        | some l => simp only; rw [if_neg (by omega)]
      · rw [if_neg hj64] at body
        rw [loopM_next body, i_list_loop hP hl k (j + 1) _ (by omega) (by simp; omega) (by omega)]
        cases rdL (P.drop (j + 1)) with
        | none => rfl
        | some l => simp only; split <;> simp
theorem none_byt : byt lit_5ac87db9 = [110, 111, 110, 101] := rfl
theorem s_list_eq {s : ByteArray} (hs : (byt s).length ≤ 1048576) : s_l01Numbers s = some (rl (byt s)) := by
  unfold s_l01Numbers rl
  rw [eqs_iff, none_byt]
  by_cases h : byt s = [110, 111, 110, 101]
  · rw [decide_eq_true h, bsel_true, if_pos h]
  · have sc : s_l01Cut s 44 = some ((cutL 44 (byt s)).map mkS) := s_cut_eq (c := 44) (by omega)
    rw [decide_eq_false h, bsel_false, if_neg h, sc, obind_eq, List.length_map]
    by_cases h64 : (cutL 44 (byt s)).length ≤ 64
    · have e : loopM (s_l01Numbers_s1 ((cutL 44 (byt s)).map mkS)) ([], 0) = _ := s_list_loop h64 (cutL 44 (byt s)).length 0 [] (by omega) (by simp)
      rw [decide_eq_false (by omega), bsel_false, e, List.drop_zero]
      cases rdL (cutL 44 (byt s)) with
      | none => rfl
      | some l => simp only; rw [if_pos h64]; rfl
    · rw [decide_eq_true (by omega), bsel_true]
      cases rdL (cutL 44 (byt s)) with
      | none => rfl
      | some l => simp only; rw [if_neg h64]
theorem i_list_eq {s : ByteArray} (hs : (byt s).length ≤ 1048576) : i_ReadList s = some (rl (byt s)) := by
  unfold i_ReadList rl
  rw [eqs_iff, none_byt]
  by_cases h : byt s = [110, 111, 110, 101]
  · rw [decide_eq_true h, bsel_true, if_pos h]
  · have hcn : (byt s).count 44 ≤ (byt s).length := List.count_le_length
    have e : loopM (i_ReadList_s1 ((cutL 44 (byt s)).map mkS)) ([], 0) = _ := i_list_loop (P := cutL 44 (byt s)) (by rw [cutL_len]; omega) (fun p hp => by have := part_len hp; omega) (cutL 44 (byt s)).length 0 [] (by omega) rfl (by omega)
    rw [decide_eq_false h, bsel_false, if_neg h, x_split_cm hs, obind_eq, e, List.drop_zero]
    cases rdL (cutL 44 (byt s)) with
    | none => rfl
    | some l =>
      simp only
      by_cases h64 : (cutL 44 (byt s)).length ≤ 64
      · rw [if_pos h64, if_pos h64]; rfl
      · rw [if_neg h64, if_neg h64]; rfl
theorem cut_mem {c b : UInt8} (hbc : b ≠ c) : ∀ {s : List UInt8}, b ∈ s → ∃ p ∈ cutL c s, b ∈ p
  | [], h => by simp at h
  | x :: l, h => by
    by_cases hx : x = c
    · have hl : b ∈ l := by
        rcases List.mem_cons.1 h with e | e
        · exact absurd (e.trans hx) hbc
        · exact e
      obtain ⟨p, h1, h2⟩ := cut_mem hbc hl
      refine ⟨p, ?_, h2⟩
      unfold cutL; rw [if_pos hx]; simp [h1]
    · have hcut : cutL c (x :: l) = match cutL c l with | [] => [[x]] | h :: t => (x :: h) :: t := by
        conv => lhs; unfold cutL
        rw [if_neg hx]
      rw [hcut]
      have hne : cutL c l ≠ [] := by
        intro e
        have := cutL_len (c := c) (l := l)
        rw [e] at this; simp at this
      cases hc : cutL c l with
      | nil => exact absurd hc hne
      | cons y t =>
        rcases List.mem_cons.1 h with e | e
        · exact ⟨x :: y, by simp, by simp [e]⟩
        · obtain ⟨p, h1, h2⟩ := cut_mem hbc e
          rw [hc] at h1
          rcases List.mem_cons.1 h1 with e1 | e1
          · exact ⟨x :: y, by simp, by subst e1; simp [h2]⟩
          · exact ⟨p, by simp [e1], h2⟩
theorem sm_one : byt lit_b7340269 = [59] := rfl
def hexD (d : Nat) : Int := if d < 10 then 48 + (d : Int) else 87 + (d : Int)
theorem hex_sat2 {d : Nat} (h : d < 16) : sat? lit_b1892504 (d : Int) = some (hexD d) := by
  match d, h with
  | 0, _ => rfl
  | 1, _ => rfl
  | 2, _ => rfl
  | 3, _ => rfl
  | 4, _ => rfl
  | 5, _ => rfl
  | 6, _ => rfl
  | 7, _ => rfl
  | 8, _ => rfl
  | 9, _ => rfl
  | 10, _ => rfl
  | 11, _ => rfl
  | 12, _ => rfl
  | 13, _ => rfl
  | 14, _ => rfl
  | 15, _ => rfl
  | d + 16, h => exact absurd h (by omega)
theorem and15 {x : Nat} (h : x < 18446744073709551616) : (BitVec.ofInt 64 (x : Int) &&& BitVec.ofInt 64 15).toNat = x % 16 := by
  have e1 : (BitVec.ofInt 64 (x : Int)).toNat = x := by
    rw [BitVec.ofInt_natCast, BitVec.toNat_ofNat]
    exact Nat.mod_eq_of_lt h
  have e2 : (BitVec.ofInt 64 15).toNat = 15 := by decide
  rw [BitVec.toNat_and, e1, e2]
  exact Nat.and_two_pow_sub_one_eq_mod x 4
theorem u64_wrap {n : Int} (h0 : 0 ≤ n) (h1 : n < 18446744073709551616) : IntKind.u64.wrap n = n := by
  simp only [IntKind.wrap, IntKind.bits, IntKind.signed]
  simp
  omega
theorem iand_u {x : Nat} (h : x < 9000000000000000000) : iand .u64 (x : Int) 15 = ((x % 16 : Nat) : Int) := by
  unfold iand
  show IntKind.u64.wrap (((BitVec.ofInt 64 (x : Int) &&& BitVec.ofInt 64 15).toNat : Nat) : Int) = _
  rw [and15 (by omega), u64_wrap (by omega) (by omega)]
theorem ishr_nat {k : IntKind} {x j : Nat} (h : j ≤ k.bits) : ishr k (x : Int) (j : Int) = ((x / 2 ^ j : Nat) : Int) := by
  unfold ishr
  rw [show ((j : Nat) : Int).toNat = j from by omega, Nat.min_eq_left h, Int.fdiv_eq_ediv_of_nonneg _ (by exact Int.le_of_lt (Int.pow_pos (by decide)))]
  push_cast
  rfl
def hxR : Nat → Nat → List Int
  | 0, n => [hexD (n % 16)]
  | k + 1, n => hexD (n / 16 ^ (k + 1) % 16) :: hxR k n
theorem hxR_snoc : ∀ (k n : Nat), hxR (k + 1) n = hxR k (n / 16) ++ [hexD (n % 16)]
  | 0, n => by simp [hxR]
  | k + 1, n => by
    have ih := hxR_snoc k n
    show hexD (n / 16 ^ (k + 2) % 16) :: hxR (k + 1) n = (hexD (n / 16 / 16 ^ (k + 1) % 16) :: hxR k (n / 16)) ++ [hexD (n % 16)]
    rw [ih, Nat.div_div_eq_div_mul, show 16 * 16 ^ (k + 1) = 16 ^ (k + 2) from by rw [Nat.pow_succ 16 (k + 1), Nat.mul_comm]]
    rfl
theorem hxR_len : ∀ (k n : Nat), (hxR k n).length = k + 1
  | 0, n => rfl
  | k + 1, n => by simp [hxR, hxR_len k n]
def hxs (n : Nat) : List Int := if n < 16 then [hexD n] else hxs (n / 16) ++ [hexD (n % 16)]
theorem set_drop {α : Type} {L : List α} {j : Nat} {d : α} (h : j < L.length) : (L.set j d).drop j = d :: L.drop (j + 1) := by
  rw [List.drop_eq_getElem_cons (by simpa using h), List.drop_set_of_lt (by omega)]
  simp
theorem fmt_loop : ∀ (k v i : Nat) (L : List Int), v < 16 ^ (k + 1) → v < 9000000000000000000 → k + 1 ≤ i → i ≤ 65 → L.length = 65 →
    ∃ e, loopM (x_internal_strconv_formatBits_s2 4 16 15) (L, (v : Int), (i : Int)) = some (.inl e) ∧ x_internal_strconv_formatBits_k2 false false e.1 e.2.1 e.2.2 = some (strOfNums (hxs v ++ L.drop i), []) := by
  intro k
  induction k with
  | zero =>
    intro v i L hv hv9 hki hi hL
    have hv16 : v < 16 := by simpa using hv
    refine ⟨(L, (v : Int), (i : Int)), loopM_out ?_, ?_⟩
    · show x_internal_strconv_formatBits_b2 4 16 15 L (v : Int) (i : Int) = _
      unfold x_internal_strconv_formatBits_b2
      rw [decide_eq_false (by omega), bsel_false]
    · show x_internal_strconv_formatBits_k2 false false L (v : Int) (i : Int) = _
      unfold x_internal_strconv_formatBits_k2 x_internal_strconv_formatBits_k4 x_internal_strconv_formatBits_k5
      simp only [olet_eq]
      rw [wi64 (by omega) (by omega), hex_sat2 hv16, obind_eq, setAt?_of (by omega) (by omega), obind_eq, bsel_false, bsel_false, show (decide (0 ≤ (i : Int) - 1) && decide ((i : Int) - 1 < ((65 : Nat) : Int))) = true from by simp; omega, need_true]
      rw [show ((i : Int) - 1).toNat = i - 1 from by omega, set_drop (by omega), show i - 1 + 1 = i from by omega]
      unfold hxs
      rw [if_pos hv16]; rfl
  | succ k ih =>
    intro v i L hv hv9 hki hi hL
    by_cases hv16 : v < 16
    · refine ⟨(L, (v : Int), (i : Int)), loopM_out ?_, ?_⟩
      · show x_internal_strconv_formatBits_b2 4 16 15 L (v : Int) (i : Int) = _
        unfold x_internal_strconv_formatBits_b2
        rw [decide_eq_false (by omega), bsel_false]
      · show x_internal_strconv_formatBits_k2 false false L (v : Int) (i : Int) = _
        unfold x_internal_strconv_formatBits_k2 x_internal_strconv_formatBits_k4 x_internal_strconv_formatBits_k5
        simp only [olet_eq]
        rw [wi64 (by omega) (by omega), hex_sat2 hv16, obind_eq, setAt?_of (by omega) (by omega), obind_eq, bsel_false, bsel_false, show (decide (0 ≤ (i : Int) - 1) && decide ((i : Int) - 1 < ((65 : Nat) : Int))) = true from by simp; omega, need_true]
        rw [show ((i : Int) - 1).toNat = i - 1 from by omega, set_drop (by omega), show i - 1 + 1 = i from by omega]
        unfold hxs
        rw [if_pos hv16]; rfl
    · obtain ⟨e, h1, h2⟩ := ih (v / 16) (i - 1) (L.set (i - 1) (hexD (v % 16))) (by rw [Nat.pow_succ] at hv; omega) (by omega) (by omega) (by omega) (by simpa using hL)
      have st : x_internal_strconv_formatBits_s2 4 16 15 (L, (v : Int), (i : Int)) = some (.next (L.set (i - 1) (hexD (v % 16)), ((v / 16 : Nat) : Int), ((i - 1 : Nat) : Int))) := by
        show x_internal_strconv_formatBits_b2 4 16 15 L (v : Int) (i : Int) = _
        unfold x_internal_strconv_formatBits_b2
        have hs : ishr .u64 (v : Int) 4 = ((v / 16 : Nat) : Int) := ishr_nat (k := .u64) (j := 4) (by decide)
        rw [decide_eq_true (by omega), bsel_true]
        simp only [olet_eq]
        rw [wi64 (by omega) (by omega), iand_u (by omega), hex_sat2 (Nat.mod_lt _ (by decide)), obind_eq, setAt?_of (by omega) (by omega), obind_eq, hs, show decide ((0 : Int) ≤ 4) = true from rfl, need_true]
        rw [show ((i : Int) - 1).toNat = i - 1 from by omega, show ((i : Int) - 1) = ((i - 1 : Nat) : Int) from by omega]
      refine ⟨e, by rw [loopM_next st]; exact h1, ?_⟩
      rw [h2, set_drop (by omega), show i - 1 + 1 = i from by omega]
      conv => rhs; unfold hxs
      rw [if_neg hv16]; simp
theorem pow2_16 : x_internal_strconv_isPowerOfTwo 16 = some true := by kernel_rfl
theorem tz_16 : x_math_bits_TrailingZeros 16 = some 4 := by kernel_rfl
theorem fmt16_eq {n : Nat} (hn : n < 4294967296) : x_strconv_FormatInt_16 (n : Int) 16 = some (strOfNums (hxs n)) := by
  obtain ⟨e, h1, h2⟩ := fmt_loop 7 n 65 (List.replicate 65 (0 : Int)) (by have : (16 : Nat) ^ (7 + 1) = 4294967296 := by decide
                                                                          omega) (by omega) (by omega) (by omega) List.length_replicate
  have hd : (List.replicate 65 (0 : Int)).drop 65 = [] := rfl
  rw [hd, List.append_nil] at h2
  have h1 : loopM (x_internal_strconv_formatBits_s2 4 16 15) (List.replicate 65 (0 : Int), (n : Int), 65) = some (.inl e) := h1
  have k1 : x_internal_strconv_formatBits_k1 16 false false (n : Int) = some (strOfNums (hxs n), []) := by
    unfold x_internal_strconv_formatBits_k1
    rw [pow2_16, obind_eq, bsel_true]
    simp only [olet_eq]
    rw [u64_wrap (n := 16) (by omega) (by omega), tz_16, obind_eq, u64_wrap (n := 4) (by omega) (by omega), u64_wrap (n := 16 - 1) (by omega) (by omega), show (16 : Int) - 1 = 15 from rfl, h1]
    exact h2
  unfold x_strconv_FormatInt_16 x_internal_strconv_FormatInt x_internal_strconv_formatBits
  rw [show decide ((16 : Int) = 10) = false from rfl, bsel_false]
  simp only [olet_eq]
  rw [u64_wrap (n := (n : Int)) (by omega) (by omega), show decide ((16 : Int) < 2) = false from rfl, bsel_false, bsel_false, show decide ((36 : Int) < 16) = false from rfl, bsel_false, decide_eq_false (by omega), bsel_false, k1]; rfl
theorem hxR_zero : ∀ k : Nat, hxR k 0 = List.replicate (k + 1) 48
  | 0 => rfl
  | k + 1 => by
    show hexD (0 / 16 ^ (k + 1) % 16) :: hxR k 0 = _
    rw [hxR_zero k, Nat.zero_div]; rfl
theorem hxs_len : ∀ (k n : Nat), n < 16 ^ (k + 1) → 1 ≤ (hxs n).length ∧ (hxs n).length ≤ k + 1
  | 0, n, h => by
    unfold hxs
    rw [if_pos (by simpa using h)]; simp
  | k + 1, n, h => by
    unfold hxs
    by_cases hs : n < 16
    · rw [if_pos hs]; simp
    · rw [if_neg hs]
      have := hxs_len k (n / 16) (by rw [Nat.pow_succ] at h; omega)
      simp; omega
theorem pad_eq : ∀ (k n : Nat), n < 16 ^ (k + 1) → List.replicate (k + 1 - (hxs n).length) 48 ++ hxs n = hxR k n
  | 0, n, h => by
    have h16 : n < 16 := by simpa using h
    unfold hxs
    rw [if_pos h16]
    simp [hxR, Nat.mod_eq_of_lt h16]
  | k + 1, n, h => by
    by_cases hs : n < 16
    · rw [hxR_snoc, show n / 16 = 0 from by omega, hxR_zero, Nat.mod_eq_of_lt hs]
      unfold hxs
      rw [if_pos hs]; simp
    · have ih := pad_eq k (n / 16) (by rw [Nat.pow_succ] at h; omega)
      rw [hxR_snoc, ← ih]
      have e : hxs n = hxs (n / 16) ++ [hexD (n % 16)] := by
        conv => lhs; unfold hxs
        rw [if_neg hs]
      rw [e]
      simp
def bitsN (x : F) : Nat := match x with
  | none => 2143289344
  | some b => b
def hexB (x : F) : List UInt8 := (hxR 7 (bitsN x)).map fun n => UInt8.ofNat n.toNat
theorem hexB_len (x : F) : (hexB x).length = 8 := by unfold hexB; rw [List.length_map, hxR_len]
theorem bits_eq {x : F} (h : FOk .f32 x) : s_l01Bits x = some ((bitsN x : Nat) : Int) ∧ i_BitsOf x = some ((bitsN x : Nat) : Int) ∧ bitsN x < 4294967296 := by
  have e : i_BitsOf x = s_l01Bits x := rfl
  rw [e]
  cases x with
  | none => exact ⟨rfl, rfl, by decide⟩
  | some b =>
    obtain ⟨b', hb, hw, hnan⟩ := h
    subst hb
    have hlt : b' < 4294967296 := hw
    have hf : feq .f32 (some b') (some b') = true := feq_refl ⟨b', rfl, hw, hnan⟩
    have k : s_l01Bits (some b') = some (b' : Int) := by
      unfold s_l01Bits
      rw [hf, Bool.not_true, bsel_false, obind_eq]
      simp only [olet_eq]
      rw [wi64 (by omega) (by omega)]
    exact ⟨k, k, hlt⟩
theorem rep48 : ∀ k : Nat, Go.Lib.repeatL [48] k = List.replicate k 48
  | 0 => rfl
  | k + 1 => by
    show [48] ++ Go.Lib.repeatL [48] k = _
    rw [rep48 k]; rfl
theorem i_hex_eq {x : F} (h : FOk .f32 x) : i_digitsOf x = some (mkS (hexB x)) := by
  obtain ⟨_, h2, h3⟩ := bits_eq h
  have h8 : bitsN x < 16 ^ (7 + 1) := by have : (16 : Nat) ^ (7 + 1) = 4294967296 := by decide
                                         omega
  obtain ⟨l1, l2⟩ := hxs_len 7 (bitsN x) h8
  have hsz : ((strOfNums (hxs (bitsN x))).size : Int) = ((hxs (bitsN x)).length : Int) := by rw [strOfNums_size]
  unfold i_digitsOf
  rw [h2, obind_eq, fmt16_eq h3, obind_eq]
  simp only [olet_eq]
  rw [hsz, wi64 (by omega) (by omega)]
  have hr : x_strings_Repeat lit_53dfb3bc (8 - ((hxs (bitsN x)).length : Int)) = some (mkS (List.replicate (8 - (hxs (bitsN x)).length) 48)) := by
    unfold x_strings_Repeat
    rw [decide_eq_true (by omega), need_true, decide_eq_true (by omega), need_true, show lit_53dfb3bc.size = 1 from rfl, decide_eq_true (by omega), need_true, show (8 - ((hxs (bitsN x)).length : Int)).toNat = 8 - (hxs (bitsN x)).length from by omega, show lit_53dfb3bc.data.toList = [48] from rfl, rep48]; rfl
  rw [hr, obind_eq, show strOfNums (hxs (bitsN x)) = mkS ((hxs (bitsN x)).map fun n => UInt8.ofNat n.toNat) from rfl, cats_mk (by simp; omega), obind_eq]
  unfold hexB
  rw [← pad_eq 7 (bitsN x) h8, List.map_append, List.map_replicate]; rfl
def hxb (d : Nat) : UInt8 := UInt8.ofNat (hexD d).toNat
theorem hxb_val : ∀ d, d < 16 → (hxb d).toNat = if d < 10 then 48 + d else 87 + d := by decide
theorem hxb_inj {a b : Nat} (ha : a < 16) (hb : b < 16) (h : hxb a = hxb b) : a = b := by
  have h1 := hxb_val a ha
  have h2 := hxb_val b hb
  rw [h] at h1
  rw [h1] at h2
  split at h2 <;> split at h2 <;> omega
def hU : Nat → Nat → List UInt8
  | 0, _ => []
  | k + 1, n => hxb (n / 16 ^ k % 16) :: hU k n
theorem hU_hxR : ∀ k n : Nat, ((hxR k n).map fun n => UInt8.ofNat n.toNat) = hU (k + 1) n
  | 0, n => by simp [hU, hxb, hxR]
  | k + 1, n => by
    show UInt8.ofNat (hexD (n / 16 ^ (k + 1) % 16)).toNat :: ((hxR k n).map fun n => UInt8.ofNat n.toNat) = _
    rw [hU_hxR k n]; rfl
theorem hU_inj : ∀ k n m : Nat, hU k n = hU k m → n % 16 ^ k = m % 16 ^ k
  | 0, n, m, _ => by simp [Nat.mod_one]
  | k + 1, n, m, h => by
    unfold hU at h
    obtain ⟨h1, h2⟩ := List.cons.inj h
    have e1 := hU_inj k n m h2
    have e2 := hxb_inj (Nat.mod_lt _ (by decide)) (Nat.mod_lt _ (by decide)) h1
    rw [Nat.mod_pow_succ, Nat.mod_pow_succ, e1, e2]
theorem hU_mem {b : UInt8} : ∀ {k n : Nat}, b ∈ hU k n → ∃ m, m < 16 ∧ b = hxb m
  | 0, n, h => by simp [hU] at h
  | k + 1, n, h => by
    unfold hU at h
    rcases List.mem_cons.1 h with e | e
    · exact ⟨_, Nat.mod_lt _ (by decide), e⟩
    · exact hU_mem e
theorem hexB_hU (x : F) : hexB x = hU 8 (bitsN x) := hU_hxR 7 (bitsN x)
theorem nan_word : (FloatKind.f32.format.read 2143289344).isNaN = true := by decide +kernel
theorem bitsN_lt {x : F} (h : FOk .f32 x) : bitsN x < 4294967296 := (bits_eq h).2.2
theorem bits_inj {x y : F} (hx : FOk .f32 x) (hy : FOk .f32 y) (h : bitsN x = bitsN y) : x = y := by
  cases x with
  | none =>
    cases y with
    | none => rfl
    | some b =>
      obtain ⟨b', hb, _, hn⟩ := hy
      subst hb
      have e : 2143289344 = b' := h
      rw [← e, nan_word] at hn; cases hn
  | some a =>
    cases y with
    | none =>
      obtain ⟨b', hb, _, hn⟩ := hx
      subst hb
      have e : b' = 2143289344 := h
      rw [e, nan_word] at hn; cases hn
    | some b => exact congrArg some h
theorem hexB_inj {x y : F} (hx : FOk .f32 x) (hy : FOk .f32 y) (h : hexB x = hexB y) : x = y := by
  rw [hexB_hU, hexB_hU] at h
  have h1 := hU_inj 8 _ _ h
  have l1 := bitsN_lt hx
  have l2 := bitsN_lt hy
  have e : (16 : Nat) ^ 8 = 4294967296 := by decide
  rw [e] at h1
  exact bits_inj hx hy (by omega)
theorem ffb_ok {n : Nat} (h : n < 4294967296) : FOk .f32 (ffb .f32 (n : Int)) := by
  have hw : n < 2 ^ FloatKind.f32.format.width := h
  unfold ffb
  rw [show ((n : Nat) : Int).toNat = n from by omega]
  cases hn : (FloatKind.f32.format.read n).isNaN with
  | true => rw [if_pos rfl]; exact ⟨n, hw, hn⟩
  | false => rw [if_neg (by decide)]; exact ⟨n, rfl, hw, hn⟩
theorem ffb_bits {x : F} (h : FOk .f32 x) : ffb .f32 ((bitsN x : Nat) : Int) = x := by
  have hl := bitsN_lt h
  cases x with
  | none =>
    unfold ffb
    rw [show ((bitsN none : Nat) : Int).toNat = 2143289344 from rfl, nan_word, if_pos rfl]
  | some b =>
    obtain ⟨b', hb, _, hn⟩ := h
    subst hb
    unfold ffb
    rw [show ((bitsN (some b') : Nat) : Int).toNat = b' from rfl, hn, if_neg (by decide)]
theorem u32_wrap {n : Int} (h0 : 0 ≤ n) (h1 : n < 4294967296) : IntKind.u32.wrap n = n := by
  simp only [IntKind.wrap, IntKind.bits, IntKind.signed]
  simp
  omega
theorem u8_wrp {n : Int} (h0 : 0 ≤ n) (h1 : n < 256) : IntKind.u8.wrap n = n := by
  simp only [IntKind.wrap, IntKind.bits, IntKind.signed]
  simp
  omega
theorem u8_some (n : Int) : ∃ d : Nat, d < 256 ∧ IntKind.u8.wrap n = (d : Int) := by
  refine ⟨(IntKind.u8.wrap n).toNat, ?_, ?_⟩
  · simp only [IntKind.wrap, IntKind.bits, IntKind.signed]; simp; omega
  · simp only [IntKind.wrap, IntKind.bits, IntKind.signed]; simp; omega
theorem fw_need {n : Int} (h0 : 0 ≤ n) (h1 : n < 4294967296) : (decide (0 ≤ n) && decide (n.toNat < 2 ^ FloatKind.f32.format.width)) = true := by
  have e : 2 ^ FloatKind.f32.format.width = 4294967296 := by decide
  rw [e, decide_eq_true h0, decide_eq_true (by omega)]; rfl
theorem s_from {n : Nat} (h : n < 4294967296) : s_l01From (n : Int) = some (ffb .f32 (n : Int)) := by
  unfold s_l01From
  simp only [olet_eq]
  rw [u32_wrap (by omega) (by omega), fw_need (by omega) (by omega), need_true]

open Classical in
noncomputable def rdF (s : List UInt8) : Option F := if h : ∃ x : F, FOk .f32 x ∧ s = hexB x then some h.choose else none
theorem rdF_some {s : List UInt8} {x : F} (hx : FOk .f32 x) (h : s = hexB x) : rdF s = some x := by
  have hh : ∃ x : F, FOk .f32 x ∧ s = hexB x := ⟨x, hx, h⟩
  unfold rdF
  rw [dif_pos hh]
  exact congrArg some (hexB_inj hh.choose_spec.1 hx (hh.choose_spec.2.symm.trans h))
theorem rdF_none {s : List UInt8} (h : ¬ ∃ x : F, FOk .f32 x ∧ s = hexB x) : rdF s = none := by unfold rdF; rw [dif_neg h]
theorem rdF_is {s : List UInt8} {x : F} (h : rdF s = some x) : FOk .f32 x ∧ s = hexB x := by
  unfold rdF at h
  split at h
  · rename_i hh
    rw [← Option.some.inj h]; exact hh.choose_spec
  · cases h
theorem s_word_step {r1 : List ByteArray} {v5 : Int} {p : List UInt8} {b : UInt8} {v j : Nat} (ha : at? r1 v5 = some (mkS p)) (hb : p[j]? = some b) (hj : j < 8) (hv : v < 1000000000) :
    (∃ m, m < 16 ∧ b = hxb m ∧ s_l01NRead_s10 r1 v5 ((v : Int), (j : Int)) = some (.next (((16 * v + m : Nat) : Int), ((j + 1 : Nat) : Int)))) ∨ ((∀ m, m < 16 → b ≠ hxb m) ∧ s_l01NRead_s10 r1 v5 ((v : Int), (j : Int)) = some (.ret (false, []))) := by
  have hs : sat? (mkS p) (j : Int) = some (b.toNat : Int) := sat_mk (by rw [byt_mk]; exact hb)
  have hlt : b.toNat < 256 := b.toNat_lt
  have open1 : s_l01NRead_s10 r1 v5 ((v : Int), (j : Int)) = bsel (decide (48 ≤ (b.toNat : Int))) (
      bsel (decide ((b.toNat : Int) ≤ 57)) (
        s_l01NRead_k8 v j b.toNat (IntKind.i64.wrap (IntKind.u8.wrap ((b.toNat : Int) - 48)))) (
        s_l01NRead_k8 v j b.toNat (-1))) (
      s_l01NRead_k8 v j b.toNat (-1)) := by
    show s_l01NRead_b10 r1 v5 (v : Int) (j : Int) = _
    unfold s_l01NRead_b10
    rw [decide_eq_true (by omega), bsel_true, ha, obind_eq, hs, obind_eq]; rfl
  have next (m : Nat) (hm : m < 16) : s_l01NRead_k9 v j (m : Int) = some (.next (((16 * v + m : Nat) : Int), ((j + 1 : Nat) : Int))) := by
    unfold s_l01NRead_k9
    rw [decide_eq_false (by omega), bsel_false]
    simp only [olet_eq]
    rw [wi64 (n := 16 * (v : Int)) (by omega) (by omega), wi64 (by omega) (by omega), wi64 (by omega) (by omega)]
    simp
  have last : s_l01NRead_k9 v j (-1) = some (.ret (false, [])) := by
    unfold s_l01NRead_k9
    rw [decide_eq_true (by omega), bsel_true]
  by_cases h1 : 48 ≤ b.toNat ∧ b.toNat ≤ 57
  · refine .inl ⟨b.toNat - 48, by omega, ?_, ?_⟩
    · apply UInt8.toNat_inj.1
      rw [hxb_val _ (by omega), if_pos (by omega)]; omega
    · rw [open1, decide_eq_true (by omega), bsel_true, decide_eq_true (by omega), bsel_true, u8_wrp (by omega) (by omega), wi64 (by omega) (by omega), show ((b.toNat : Int) - 48) = ((b.toNat - 48 : Nat) : Int) from by omega]
      unfold s_l01NRead_k8
      rw [decide_eq_false (by omega), bsel_false]
      exact next _ (by omega)
  · have k8 : s_l01NRead_s10 r1 v5 ((v : Int), (j : Int)) = s_l01NRead_k8 v j b.toNat (-1) := by
      rw [open1]
      by_cases h2 : 48 ≤ b.toNat
      · rw [decide_eq_true (by omega), bsel_true, decide_eq_false (by omega), bsel_false]
      · rw [decide_eq_false (by omega), bsel_false]
    rw [k8]
    unfold s_l01NRead_k8
    by_cases h2 : 97 ≤ b.toNat ∧ b.toNat ≤ 102
    · refine .inl ⟨b.toNat - 87, by omega, ?_, ?_⟩
      · apply UInt8.toNat_inj.1
        rw [hxb_val _ (by omega), if_neg (by omega)]; omega
      · rw [decide_eq_true (by omega), bsel_true, decide_eq_true (by omega), bsel_true]
        simp only [olet_eq]
        rw [u8_wrp (by omega) (by omega), wi64 (n := (b.toNat : Int) - 97) (by omega) (by omega), wi64 (by omega) (by omega), show ((b.toNat : Int) - 97 + 10) = ((b.toNat - 87 : Nat) : Int) from by omega]
        exact next _ (by omega)
    · refine .inr ⟨fun m hm e => ?_, ?_⟩
      · have := hxb_val m hm
        rw [← e] at this
        split at this <;> omega
      · by_cases h3 : 97 ≤ b.toNat
        · rw [decide_eq_true (by omega), bsel_true, decide_eq_false (by omega), bsel_false]; exact last
        · rw [decide_eq_false (by omega), bsel_false]; exact last
theorem s_word_loop {r1 : List ByteArray} {v5 : Int} {p : List UInt8} (ha : at? r1 v5 = some (mkS p)) (h8 : p.length = 8) : ∀ (k j v : Nat), j + k = 8 → v < 16 ^ j →
    (∃ n, n / 16 ^ k = v ∧ p.drop j = hU k n ∧ loopM (s_l01NRead_s10 r1 v5) ((v : Int), (j : Int)) = some (.inl (n : Int))) ∨ ((∀ n, n / 16 ^ k = v → p.drop j ≠ hU k n) ∧ loopM (s_l01NRead_s10 r1 v5) ((v : Int), (j : Int)) = some (.inr (false, [])))
  | 0, j, v, hj, hv => by
    refine .inl ⟨v, by simp, List.drop_eq_nil_of_le (by omega), ?_⟩
    rw [loopM_out (e := (v : Int))]
    show s_l01NRead_b10 r1 v5 (v : Int) (j : Int) = _
    unfold s_l01NRead_b10
    rw [decide_eq_false (by omega), bsel_false]
  | k + 1, j, v, hj, hv => by
    obtain ⟨b, hb⟩ : ∃ b, p[j]? = some b := ⟨_, List.getElem?_eq_getElem (by omega)⟩
    have hd := drop_at hb
    have hv7 : v < 16 ^ 7 := Nat.lt_of_lt_of_le hv (Nat.pow_le_pow_right (by decide) (by omega))
    have e7 : (16 : Nat) ^ 7 = 268435456 := by decide
    rcases s_word_step ha hb (by omega) (by omega : v < 1000000000) with ⟨m, hm, hbm, st⟩ | ⟨hno, st⟩
    · rcases s_word_loop ha h8 k (j + 1) (16 * v + m) (by omega) (by rw [Nat.pow_succ]; omega) with ⟨n, h1, h2, h3⟩ | ⟨h1, h2⟩
      · refine .inl ⟨n, ?_, ?_, ?_⟩
        · rw [Nat.pow_succ, ← Nat.div_div_eq_div_mul, h1]; omega
        · rw [hd, h2, hbm]
          show hxb m :: hU k n = hxb (n / 16 ^ k % 16) :: hU k n
          rw [h1, show (16 * v + m) % 16 = m from by omega]
        · rw [loopM_next st]; exact h3
      · refine .inr ⟨fun n hn e => ?_, ?_⟩
        · rw [hd] at e
          obtain ⟨e1, e2⟩ := List.cons.inj (show b :: p.drop (j + 1) = hxb (n / 16 ^ k % 16) :: hU k n from e)
          have em := hxb_inj hm (Nat.mod_lt _ (by decide)) (hbm.symm.trans e1)
          rw [Nat.pow_succ, ← Nat.div_div_eq_div_mul] at hn
          exact h1 n (by omega) e2
        · rw [loopM_next st]; exact h2
    · refine .inr ⟨fun n _ e => ?_, ?_⟩
      · rw [hd] at e
        exact hno _ (Nat.mod_lt _ (by decide)) (List.cons.inj (show b :: p.drop (j + 1) = hxb (n / 16 ^ k % 16) :: hU k n from e)).1
      · rw [loopM_ret st]
theorem lower_hx : ∀ m, m < 6 → x_internal_strconv_lower ((97 + m : Nat) : Int) = some ((97 + m : Nat) : Int)
  | 0, _ => by kernel_rfl
  | 1, _ => by kernel_rfl
  | 2, _ => by kernel_rfl
  | 3, _ => by kernel_rfl
  | 4, _ => by kernel_rfl
  | 5, _ => by kernel_rfl
  | m + 6, h => absurd h (by omega)
theorem pu_k2 {v j d : Nat} (hv : v < 4294967296) (hj : j < 2000000) (hd : d < 256) :
    (x_internal_strconv_ParseUint_k2 v j d = some (.ret (.inl 0))) ∨ (x_internal_strconv_ParseUint_k2 v j d = some (.ret (.inr (.inl 4294967295)))) ∨ (16 * v + d < 4294967296 ∧ x_internal_strconv_ParseUint_k2 v j d = some (.next (((16 * v + d : Nat) : Int), ((j + 1 : Nat) : Int)))) := by
  unfold x_internal_strconv_ParseUint_k2
  by_cases h1 : 16 ≤ d
  · rw [decide_eq_true (by omega), bsel_true]; exact .inl rfl
  · rw [decide_eq_false (by omega), bsel_false, decide_eq_false (by omega), bsel_false]
    simp only [olet_eq]
    rw [u64_wrap (n := (v : Int) * 16) (by omega) (by omega), u64_wrap (n := (d : Int)) (by omega) (by omega), u64_wrap (by omega) (by omega), decide_eq_false (by omega), bsel_false]
    by_cases h2 : 4294967296 ≤ 16 * v + d
    · rw [decide_eq_true (by omega), bsel_true]; exact .inr (.inl rfl)
    · rw [decide_eq_false (by omega), bsel_false, wi64 (by omega) (by omega)]
      refine .inr (.inr ⟨by omega, ?_⟩)
      rw [show (v : Int) * 16 + (d : Int) = ((16 * v + d : Nat) : Int) from by omega]; rfl
theorem pu_k2_ok {v j d : Nat} (hv : 16 * v + d < 4294967296) (hj : j < 2000000) (hd : d < 16) : x_internal_strconv_ParseUint_k2 v j d = some (.next (((16 * v + d : Nat) : Int), ((j + 1 : Nat) : Int))) := by
  unfold x_internal_strconv_ParseUint_k2
  rw [decide_eq_false (by omega), bsel_false, decide_eq_false (by omega), bsel_false]
  simp only [olet_eq]
  rw [u64_wrap (n := (v : Int) * 16) (by omega) (by omega), u64_wrap (n := (d : Int)) (by omega) (by omega), u64_wrap (by omega) (by omega), decide_eq_false (by omega), bsel_false, decide_eq_false (by omega), bsel_false, wi64 (by omega) (by omega), show (v : Int) * 16 + (d : Int) = ((16 * v + d : Nat) : Int) from by omega]; rfl
theorem bytI_at {s : ByteArray} {j : Nat} {b : UInt8} (h : (byt s)[j]? = some b) : at? (bytI s) (j : Int) = some (b.toNat : Int) := by
  refine at?_of (by omega) ?_
  rw [show ((j : Nat) : Int).toNat = j from by omega]
  unfold bytI
  rw [List.getElem?_map, show s.data.toList[j]? = some b from h]; rfl
theorem bytI_len (s : ByteArray) : (bytI s).length = (byt s).length := by unfold bytI byt; rw [List.length_map]
theorem pu_step {s : ByteArray} {v j : Nat} {b : UInt8} (hb : (byt s)[j]? = some b) :
    ∃ d : Nat, d < 256 ∧ (x_internal_strconv_ParseUint_s3 s ((v : Int), (j : Int)) = x_internal_strconv_ParseUint_k2 v j d ∨ x_internal_strconv_ParseUint_s3 s ((v : Int), (j : Int)) = some (.ret (.inl 0))) := by
  have hlt : j < (byt s).length := (List.getElem?_eq_some_iff.1 hb).1
  have lw (e : Int) : x_internal_strconv_lower e = some (ior .u8 e 32) := rfl
  show ∃ d : Nat, d < 256 ∧ (x_internal_strconv_ParseUint_b3 s (v : Int) (j : Int) = x_internal_strconv_ParseUint_k2 v j d ∨ x_internal_strconv_ParseUint_b3 s (v : Int) (j : Int) = some (.ret (.inl 0)))
  unfold x_internal_strconv_ParseUint_b3
  rw [decide_eq_true (by rw [bytI_len]; omega), bsel_true, bytI_at hb]
  simp only [obind_eq, lw, olet_eq]
  obtain ⟨d1, hd1, e1⟩ := u8_some ((b.toNat : Int) - 48)
  obtain ⟨d2, hd2, e2⟩ := u8_some (IntKind.u8.wrap (ior .u8 (b.toNat : Int) 32 - 97) + 10)
  rw [e1, e2]
  cases decide ((b.toNat : Int) = 95) <;> cases decide (48 ≤ (b.toNat : Int)) <;> cases decide ((b.toNat : Int) ≤ 57) <;> cases decide (97 ≤ ior .u8 (b.toNat : Int) 32) <;> cases decide (ior .u8 (b.toNat : Int) 32 ≤ 122) <;> simp only [bsel_true, bsel_false] <;> first
    | exact ⟨0, by decide, .inr rfl⟩
    | exact ⟨0, by decide, .inr trivial⟩
    | exact ⟨d1, hd1, .inl rfl⟩
    | exact ⟨d2, hd2, .inl rfl⟩
theorem pu_out {s : ByteArray} {v : Int} {j : Nat} (h : j = (byt s).length) : loopM (x_internal_strconv_ParseUint_s3 s) (v, (j : Int)) = some (.inl v) := by
  rw [loopM_out (e := v)]
  show x_internal_strconv_ParseUint_b3 s v (j : Int) = _
  unfold x_internal_strconv_ParseUint_b3
  rw [decide_eq_false (by rw [bytI_len]; omega), bsel_false]
theorem pu_total {s : ByteArray} (hs : (byt s).length ≤ 1048576) : ∀ (k j v : Nat), j + k = (byt s).length → v < 4294967296 →
    (∃ n : Nat, n < 4294967296 ∧ loopM (x_internal_strconv_ParseUint_s3 s) ((v : Int), (j : Int)) = some (.inl (n : Int))) ∨ loopM (x_internal_strconv_ParseUint_s3 s) ((v : Int), (j : Int)) = some (.inr (.inl 0)) ∨ loopM (x_internal_strconv_ParseUint_s3 s) ((v : Int), (j : Int)) = some (.inr (.inr (.inl 4294967295)))
  | 0, j, v, hj, hv => .inl ⟨v, hv, pu_out (by omega)⟩
  | k + 1, j, v, hj, hv => by
    obtain ⟨b, hb⟩ : ∃ b, (byt s)[j]? = some b := ⟨_, List.getElem?_eq_getElem (by omega)⟩
    obtain ⟨d, hd, h | h⟩ := pu_step (v := v) hb
    · rcases pu_k2 hv (by omega : j < 2000000) hd with e | e | ⟨hl, e⟩
      · rw [e] at h; exact .inr (.inl (by rw [loopM_ret h]))
      · rw [e] at h; exact .inr (.inr (by rw [loopM_ret h]))
      · rw [e] at h
        rw [loopM_next h]
        exact pu_total hs k (j + 1) (16 * v + d) (by omega) hl
    · exact .inr (.inl (by rw [loopM_ret h]))
theorem pu_right {s : ByteArray} {n : Nat} (hn : n < 4294967296) (hs : (byt s).length = 8) : ∀ (k j v : Nat), j + k = 8 → n / 16 ^ k = v → (byt s).drop j = hU k n →
    loopM (x_internal_strconv_ParseUint_s3 s) ((v : Int), (j : Int)) = some (.inl (n : Int))
  | 0, j, v, hj, hv, hd => by
    rw [pu_out (by omega)]
    simp at hv; rw [hv]
  | k + 1, j, v, hj, hv, hd => by
    obtain ⟨b, hb⟩ : ∃ b, (byt s)[j]? = some b := ⟨_, List.getElem?_eq_getElem (by omega)⟩
    rw [drop_at hb] at hd
    obtain ⟨e1, e2⟩ := List.cons.inj (show b :: (byt s).drop (j + 1) = hxb (n / 16 ^ k % 16) :: hU k n from hd)
    have hm : n / 16 ^ k % 16 < 16 := Nat.mod_lt _ (by decide)
    have hle : n / 16 ^ k ≤ n := Nat.div_le_self _ _
    rw [Nat.pow_succ, ← Nat.div_div_eq_div_mul] at hv
    have e16 : n / 16 ^ k = 16 * v + n / 16 ^ k % 16 := by omega
    have hbv := hxb_val _ hm
    rw [← e1] at hbv
    generalize hmm : n / 16 ^ k % 16 = m at *
    have st : x_internal_strconv_ParseUint_s3 s ((v : Int), (j : Int)) = some (.next (((16 * v + m : Nat) : Int), ((j + 1 : Nat) : Int))) := by
      rw [← pu_k2_ok (v := v) (j := j) (d := m) (by omega) (by omega) hm]
      show x_internal_strconv_ParseUint_b3 s (v : Int) (j : Int) = _
      unfold x_internal_strconv_ParseUint_b3
      rw [decide_eq_true (by rw [bytI_len]; omega), bsel_true, bytI_at hb, obind_eq]
      by_cases h10 : m < 10
      · rw [if_pos h10] at hbv
        rw [decide_eq_false (by omega), bsel_false, decide_eq_true (by omega), bsel_true, decide_eq_true (by omega), bsel_true]
        simp only [olet_eq]
        rw [u8_wrp (by omega) (by omega), show (b.toNat : Int) - 48 = (m : Int) from by omega]
      · rw [if_neg h10] at hbv
        have hl := lower_hx (m - 10) (by omega)
        rw [show ((97 + (m - 10) : Nat) : Int) = (b.toNat : Int) from by omega] at hl
        rw [decide_eq_false (by omega), bsel_false, decide_eq_true (by omega), bsel_true, decide_eq_false (by omega), bsel_false, hl, obind_eq, decide_eq_true (by omega), bsel_true, obind_eq, decide_eq_true (by omega), bsel_true, obind_eq]
        simp only [olet_eq]
        rw [u8_wrp (n := (b.toNat : Int) - 97) (by omega) (by omega), u8_wrp (by omega) (by omega), show (b.toNat : Int) - 97 + 10 = (m : Int) from by omega]
    rw [loopM_next st]
    exact pu_right hn hs k (j + 1) _ (by omega) e16 e2
theorem pu_cases {s : ByteArray} (hs : (byt s).length ≤ 1048576) : (∃ n : Nat, n < 4294967296 ∧ x_strconv_ParseUint s = some (.inr (n : Int))) ∨ ∃ n : Nat, n < 4294967296 ∧ x_strconv_ParseUint s = some (.inl (n : Int)) := by
  have ts : x_strconv_toError_syntax lit_c0869d09 s 16 32 = some () := by
    unfold x_strconv_toError_syntax
    rw [decide_eq_true (by rw [siz]; omega), need_true]
  have tr : x_strconv_toError_range lit_c0869d09 s 16 32 = some () := by
    unfold x_strconv_toError_range
    rw [decide_eq_true (by rw [siz]; omega), need_true]
  unfold x_strconv_ParseUint x_internal_strconv_ParseUint
  cases eqs s lit_99ba06bc with
  | true => exact .inr ⟨0, by decide, by rw [bsel_true]; simp only [obind_eq, osum, ts]; rfl⟩
  | false =>
    rw [bsel_false]
    rcases pu_total hs (byt s).length 0 0 (by omega) (by decide) with ⟨n, hn, h⟩ | h | h
    · have h : loopM (x_internal_strconv_ParseUint_s3 s) (0, 0) = _ := h
      exact .inl ⟨n, hn, by rw [h]; rfl⟩
    · have h : loopM (x_internal_strconv_ParseUint_s3 s) (0, 0) = _ := h
      exact .inr ⟨0, by decide, by rw [h]; simp only [obind_eq, osum, ts]; rfl⟩
    · have h : loopM (x_internal_strconv_ParseUint_s3 s) (0, 0) = _ := h
      exact .inr ⟨4294967295, by decide, by rw [h]; simp only [obind_eq, osum, tr]; rfl⟩
theorem pu_word {p : List UInt8} {x : F} (hx : FOk .f32 x) (h : p = hexB x) : x_strconv_ParseUint (mkS p) = some (.inr ((bitsN x : Nat) : Int)) := by
  have hl := bitsN_lt hx
  have h8 : (byt (mkS p)).length = 8 := by rw [byt_mk, h, hexB_len]
  have hdiv : bitsN x / 16 ^ 8 = 0 := by
    have e : (16 : Nat) ^ 8 = 4294967296 := by decide
    rw [e]; omega
  have e : loopM (x_internal_strconv_ParseUint_s3 (mkS p)) (0, 0) = some (.inl ((bitsN x : Nat) : Int)) := pu_right hl h8 8 0 0 (by omega) hdiv (by rw [byt_mk, List.drop_zero, h, hexB_hU])
  have hne : eqs (mkS p) lit_99ba06bc = false := by
    rw [eqs_iff]
    refine decide_eq_false fun e => ?_
    rw [e] at h8
    exact absurd h8 (by decide)
  unfold x_strconv_ParseUint x_internal_strconv_ParseUint
  rw [hne, bsel_false, e]; rfl
theorem i_word_eq {p : List UInt8} (hp : p.length ≤ 1048576) : i_fromDigits (mkS p) = some (match rdF p with | none => (some 0, false) | some x => (x, true)) := by
  by_cases hh : ∃ x : F, FOk .f32 x ∧ p = hexB x
  · obtain ⟨x, hx, e⟩ := hh
    have hl := bitsN_lt hx
    rw [rdF_some hx e]
    unfold i_fromDigits
    rw [pu_word hx e]
    simp only [obind_eq, osum, olet_eq]
    rw [u32_wrap (by omega) (by omega), fw_need (by omega) (by omega), need_true, ffb_bits hx, i_hex_eq hx, obind_eq, eqs_iff, byt_mk, byt_mk, decide_eq_true e.symm, Bool.not_true, bsel_false]
  · rw [rdF_none hh]
    unfold i_fromDigits
    rcases pu_cases (s := mkS p) (by rw [byt_mk]; exact hp) with ⟨n, hn, e⟩ | ⟨n, hn, e⟩
    · rw [e]
      simp only [obind_eq, osum, olet_eq]
      have hne : ¬ hexB (ffb .f32 (n : Int)) = p := fun e => hh ⟨_, ffb_ok hn, e.symm⟩
      rw [u32_wrap (by omega) (by omega), fw_need (by omega) (by omega), need_true, i_hex_eq (ffb_ok hn), obind_eq, eqs_iff, byt_mk, byt_mk, decide_eq_false hne, Bool.not_false, bsel_true]
    · rw [e]
      simp only [obind_eq, osum, olet_eq]
      rw [u32_wrap (by omega) (by omega), fw_need (by omega) (by omega), need_true]
noncomputable def rdFL : List (List UInt8) → Option (List F)
  | [] => some []
  | p :: r => match rdF p with
    | none => none
    | some n => match rdFL r with
      | none => none
      | some l => some (n :: l)
noncomputable def rlF (s : List UInt8) : Bool × List F := if s = [110, 111, 110, 101] then (true, []) else match rdFL (cutL 44 s) with
  | none => (false, [])
  | some l => if (cutL 44 s).length ≤ 256 then (true, l) else (false, [])
theorem sF_body {P : List (List UInt8)} {p : List UInt8} {j : Nat} {L : List F} (hp : P[j]? = some p) (hP : P.length ≤ 256) (hL : L.length ≤ j) :
    s_l01NRead_s11 (P.map mkS) (L, (j : Int)) = match rdF p with | none => some (.ret (false, [])) | some n => some (.next (L ++ [n], ((j + 1 : Nat) : Int))) := by
  have hj : j < P.length := (List.getElem?_eq_some_iff.1 hp).1
  have ha : at? (P.map mkS) (j : Int) = some (mkS p) := at?_of (by omega) (by rw [show (j : Int).toNat = j from by omega, List.getElem?_map, hp]; rfl)
  show s_l01NRead_b11 (P.map mkS) L (j : Int) = _
  unfold s_l01NRead_b11
  rw [List.length_map, decide_eq_true (by omega), bsel_true, ha, obind_eq, siz, byt_mk]
  by_cases h8 : p.length = 8
  · rw [decide_eq_true (by omega), Bool.not_true, bsel_false]
    have e8 : (16 : Nat) ^ 8 = 4294967296 := by decide
    rcases s_word_loop ha h8 8 0 0 (by omega) (by decide) with ⟨n, h1, h2, h3⟩ | ⟨h1, h2⟩
    · have h3 : loopM (s_l01NRead_s10 (P.map mkS) (j : Int)) (0, 0) = some (.inl (n : Int)) := h3
      have hn : n < 4294967296 := by rw [e8] at h1; omega
      rw [List.drop_zero] at h2
      have fo := ffb_ok hn
      rw [h3]
      simp only [obind_eq, osum]
      unfold s_l01NRead_k10
      rw [s_from hn, obind_eq, (bits_eq fo).1, obind_eq]
      by_cases hb : bitsN (ffb .f32 (n : Int)) = n
      · rw [rdF_some fo (by rw [hexB_hU, hb]; exact h2), decide_eq_true (by omega), Bool.not_true, bsel_false, show apok 4 L.length 1 = true from by simp only [apok, Bool.and_eq_true, decide_eq_true_eq]; omega, need_true]
        simp only [olet_eq]
        rw [wi64 (by omega) (by omega)]; rfl
      · rw [rdF_none, decide_eq_false (by omega), Bool.not_false, bsel_true]
        rintro ⟨x, hx, e⟩
        have hl := bitsN_lt hx
        rw [hexB_hU] at e
        have := hU_inj 8 _ _ (h2.symm.trans e)
        rw [e8] at this
        have en : n = bitsN x := by omega
        rw [en, ffb_bits hx] at hb
        exact hb rfl
    · have h2 : loopM (s_l01NRead_s10 (P.map mkS) (j : Int)) (0, 0) = some (.inr (false, [])) := h2
      rw [h2, rdF_none]
      · rfl
      rintro ⟨x, hx, e⟩
      have hl := bitsN_lt hx
      exact h1 (bitsN x) (by rw [e8]; omega) (by rw [List.drop_zero, e, hexB_hU])
  · rw [rdF_none (fun ⟨x, hx, e⟩ => h8 (by rw [e, hexB_len])), decide_eq_false (by omega), Bool.not_false, bsel_true]
theorem sF_loop {P : List (List UInt8)} (hP : P.length ≤ 256) : ∀ (k j : Nat) (L : List F), j + k = P.length → L.length ≤ j →
    loopM (s_l01NRead_s11 (P.map mkS)) (L, (j : Int)) = some (match rdFL (P.drop j) with | none => .inr (false, []) | some l => .inl (L ++ l))
  | 0, j, L, hj, hL => by
    have hd : P.drop j = [] := List.drop_eq_nil_of_le (by omega)
    rw [hd, loopM_out (e := L)]
    · simp [rdFL]
    · show s_l01NRead_b11 (P.map mkS) L (j : Int) = _
      unfold s_l01NRead_b11
      rw [List.length_map, decide_eq_false (by omega), bsel_false]
  | k + 1, j, L, hj, hL => by
    obtain ⟨p, hp⟩ : ∃ p, P[j]? = some p := ⟨_, List.getElem?_eq_getElem (by omega)⟩
    have body := sF_body hp hP hL
    rw [drop_at hp]
    unfold rdFL
    cases hr : rdF p with
    | none => rw [hr] at body; rw [loopM_ret body]
    | some n =>
      rw [hr] at body
      rw [loopM_next body, sF_loop hP k (j + 1) _ (by omega) (by simp; omega)]
      cases rdFL (P.drop (j + 1)) <;> simp
theorem iF_loop {P : List (List UInt8)} (hP : P.length ≤ 2000000) (hl : ∀ p ∈ P, p.length ≤ 1048576) : ∀ (k j : Nat) (L : List F), j + k = P.length → L.length = j → j ≤ 256 →
    loopM (i_ReadNumbers_s1 (P.map mkS)) (L, (j : Int)) = some (match rdFL (P.drop j) with | none => .inr (false, []) | some l => if P.length ≤ 256 then .inl (L ++ l) else .inr (false, []))
  | 0, j, L, hj, hL, h64 => by
    have hd : P.drop j = [] := List.drop_eq_nil_of_le (by omega)
    rw [hd, loopM_out (e := L)]
    · unfold rdFL
      simp only
      rw [if_pos (by omega)]; simp
    · show i_ReadNumbers_b1 (P.map mkS) L (j : Int) = _
      unfold i_ReadNumbers_b1
      rw [List.length_map, decide_eq_false (by omega), bsel_false]
  | k + 1, j, L, hj, hL, h64 => by
    obtain ⟨p, hp⟩ : ∃ p, P[j]? = some p := ⟨_, List.getElem?_eq_getElem (by omega)⟩
    have ha : at? (P.map mkS) (j : Int) = some (mkS p) := at?_of (by omega) (by rw [show (j : Int).toNat = j from by omega, List.getElem?_map, hp]; rfl)
    have body : i_ReadNumbers_s1 (P.map mkS) (L, (j : Int)) = match rdF p with | none => some (.ret (false, [])) | some n => if j = 256 then some (.ret (false, [])) else some (.next (L ++ [n], ((j + 1 : Nat) : Int))) := by
      show i_ReadNumbers_b1 (P.map mkS) L (j : Int) = _
      unfold i_ReadNumbers_b1
      rw [List.length_map, decide_eq_true (by omega), bsel_true, ha, obind_eq, i_word_eq (hl p (List.mem_of_getElem? hp))]
      cases rdF p with
      | none => rfl
      | some n =>
        simp only [obind2_eq]
        rw [bsel_true]
        by_cases hj64 : j = 256
        · rw [decide_eq_true (by omega), bsel_true, if_pos hj64]
        · rw [decide_eq_false (by omega), bsel_false, if_neg hj64, show apok 4 L.length 1 = true from by simp only [apok, Bool.and_eq_true, decide_eq_true_eq]; omega, need_true]
          simp only [olet_eq]
          rw [wi64 (by omega) (by omega)]; rfl
    rw [drop_at hp]
    unfold rdFL
    cases hr : rdF p with
    | none => rw [hr] at body; rw [loopM_ret body]
    | some n =>
      rw [hr] at body
      simp only at body ⊢
      by_cases hj64 : j = 256
      · rw [if_pos hj64] at body
        rw [loopM_ret body]
        cases rdFL (P.drop (j + 1)) with
        | none => rfl
        | some l => simp only; rw [if_neg (by omega)]
      · rw [if_neg hj64] at body
        rw [loopM_next body, iF_loop hP hl k (j + 1) _ (by omega) (by simp; omega) (by omega)]
        cases rdFL (P.drop (j + 1)) with
        | none => rfl
        | some l => simp only; split <;> simp
theorem sF_eq {s : ByteArray} (hs : (byt s).length ≤ 1048576) : s_l01NRead s = some (rlF (byt s)) := by
  unfold s_l01NRead rlF
  rw [eqs_iff, none_byt]
  by_cases h : byt s = [110, 111, 110, 101]
  · rw [decide_eq_true h, bsel_true, if_pos h]
  · have sc : s_l01Cut s 44 = some ((cutL 44 (byt s)).map mkS) := s_cut_eq (c := 44) (by omega)
    rw [decide_eq_false h, bsel_false, if_neg h, sc, obind_eq, List.length_map]
    by_cases h64 : (cutL 44 (byt s)).length ≤ 256
    · have e : loopM (s_l01NRead_s11 ((cutL 44 (byt s)).map mkS)) ([], 0) = _ := sF_loop h64 (cutL 44 (byt s)).length 0 [] (by omega) (by simp)
      rw [decide_eq_false (by omega), bsel_false, e, List.drop_zero]
      cases rdFL (cutL 44 (byt s)) with
      | none => rfl
      | some l => simp only; rw [if_pos h64]; rfl
    · rw [decide_eq_true (by omega), bsel_true]
      cases rdFL (cutL 44 (byt s)) with
      | none => rfl
      | some l => simp only; rw [if_neg h64]
theorem iF_eq {s : ByteArray} (hs : (byt s).length ≤ 1048576) : i_ReadNumbers s = some (rlF (byt s)) := by
  unfold i_ReadNumbers rlF
  rw [eqs_iff, none_byt]
  by_cases h : byt s = [110, 111, 110, 101]
  · rw [decide_eq_true h, bsel_true, if_pos h]
  · have hcn : (byt s).count 44 ≤ (byt s).length := List.count_le_length
    have e : loopM (i_ReadNumbers_s1 ((cutL 44 (byt s)).map mkS)) ([], 0) = _ := iF_loop (P := cutL 44 (byt s)) (by rw [cutL_len]; omega) (fun p hp => by have := part_len hp; omega) (cutL 44 (byt s)).length 0 [] (by omega) rfl (by omega)
    rw [decide_eq_false h, bsel_false, if_neg h, x_split_cm hs, obind_eq, e, List.drop_zero]
    cases rdFL (cutL 44 (byt s)) with
    | none => rfl
    | some l =>
      simp only
      by_cases h64 : (cutL 44 (byt s)).length ≤ 256
      · rw [if_pos h64, if_pos h64]; rfl
      · rw [if_neg h64, if_neg h64]; rfl
theorem rdFL_all : ∀ {P : List (List UInt8)} {l : List F}, rdFL P = some l → l.length = P.length ∧ FOks l ∧ ∀ p ∈ P, ∃ x : F, p = hexB x
  | [], l, h => by
    unfold rdFL at h; rw [← Option.some.inj h]
    exact ⟨rfl, fun _ hx => by simp at hx, fun _ hx => by simp at hx⟩
  | p :: r, l, h => by
    unfold rdFL at h
    cases hp : rdF p with
    | none => rw [hp] at h; cases h
    | some n =>
      rw [hp] at h
      cases hr : rdFL r with
      | none => rw [hr] at h; cases h
      | some l2 =>
        rw [hr] at h
        obtain ⟨k1, k2, k3⟩ := rdFL_all hr
        rw [← Option.some.inj h]
        refine ⟨by simp [k1], fun x hx => ?_, fun q hq => ?_⟩
        · rcases List.mem_cons.1 hx with e | e
          · rw [e]; exact (rdF_is hp).1
          · exact k2 x e
        · rcases List.mem_cons.1 hq with e | e
          · exact ⟨n, e.trans (rdF_is hp).2⟩
          · exact k3 q e
theorem rlF_semi {s : List UInt8} (h : 59 ∈ s) : rlF s = (false, []) := by
  unfold rlF
  rw [if_neg (by intro e; rw [e] at h; simp at h)]
  cases hr : rdFL (cutL 44 s) with
  | none => rfl
  | some l =>
    exfalso
    obtain ⟨p, h1, h2⟩ := cut_mem (c := 44) (b := 59) (by decide) h
    obtain ⟨n, e⟩ := (rdFL_all hr).2.2 p h1
    rw [e, hexB_hU] at h2
    obtain ⟨m, hm, em⟩ := hU_mem h2
    have hv := hxb_val m hm
    rw [← em] at hv
    have h59 : (59 : UInt8).toNat = 59 := rfl
    rw [h59] at hv
    split at hv <;> omega
theorem rlF_len (s : List UInt8) : (rlF s).2.length ≤ 256 ∧ FOks (rlF s).2 := by
  unfold rlF
  have h0 : FOks ([] : List F) := fun _ hx => by simp at hx
  split
  · exact ⟨by simp, h0⟩
  · cases hr : rdFL (cutL 44 s) with
    | none => exact ⟨by simp, h0⟩
    | some l =>
      have := rdFL_all hr
      simp only
      split
      · exact ⟨by simp; omega, this.2.1⟩
      · exact ⟨by simp, h0⟩
theorem sides_eq {a0 : ByteArray} (h : a0.size ≤ 1048576) :
    (∃ (x y : Int) (q : List UInt8), q.length ≤ 1048576 ∧ s_l08Sides a0 = some (x, y, mkS q, true) ∧ i_readSides a0 = some (x, y, mkS q, true)) ∨
    (s_l08Sides a0 = some (0, 0, lit_99ba06bc, false) ∧ (i_readSides a0 = some (0, 0, lit_99ba06bc, false) ∨ ∃ (x y : Int) (q : List UInt8), 59 ∈ q ∧ q.length ≤ 1048576 ∧ i_readSides a0 = some (x, y, mkS q, true))) := by
  have hb : (byt a0).length ≤ 1048576 := by rw [← siz]; exact h
  have sc : s_l01Cut a0 59 = some ((cutL 59 (byt a0)).map mkS) := s_cut_eq (c := 59) (by omega)
  by_cases hs : 59 ∈ byt a0
  · obtain ⟨p, q, hpq, hp⟩ := has_split hs
    have hlen : (byt a0).length = p.length + 1 + q.length := by rw [hpq]; simp; omega
    have ct : x_strings_Cut a0 lit_b7340269 = some (mkS p, mkS q, true) := cut_hit sm_one hpq hp (by omega)
    have lp : i_ReadList (mkS p) = some (rl p) := by rw [i_list_eq (by rw [byt_mk]; omega), byt_mk]
    have np : s_l01Numbers (mkS p) = some (rl p) := by rw [s_list_eq (by rw [byt_mk]; omega), byt_mk]
    have hcut : cutL 59 (byt a0) = p :: cutL 59 q := by rw [hpq, cutL_hit hp]
    rw [hcut, List.map_cons] at sc
    have hqn : (cutL 59 q).length = q.count 59 + 1 := cutL_len
    cases hrl : rl p with
    | mk o l =>
      rw [hrl] at lp np
      by_cases hgood : o = true ∧ l.length = 2
      · obtain ⟨ho, hl2⟩ := hgood
        subst ho
        match l, hl2 with
        | [x, y], _ =>
          have iS : i_readSides a0 = some (x, y, mkS q, true) := by
            unfold i_readSides
            rw [ct, obind3_eq, bsel_true, lp, obind2_eq, bsel_true]; rfl
          by_cases hq : 59 ∈ q
          · have hc := List.count_pos_iff.2 hq
            refine .inr ⟨?_, .inr ⟨x, y, q, hq, by omega, iS⟩⟩
            unfold s_l08Sides
            rw [sc, obind_eq, decide_eq_false (by simp; omega), Bool.not_false, bsel_true]
          · refine .inl ⟨x, y, q, by omega, ?_, iS⟩
            unfold s_l08Sides
            rw [sc, cutL_none hq, obind_eq]
            show bsel false _ _ = _
            rw [bsel_false]
            show obind (some (mkS p)) _ = _
            rw [obind_eq, np, obind2_eq, bsel_true]; rfl
      · have iS : i_readSides a0 = some (0, 0, lit_99ba06bc, false) := by
          unfold i_readSides
          rw [ct, obind3_eq, bsel_true, lp, obind2_eq]
          cases o with
          | false => rw [bsel_false]
          | true =>
            have hl : ¬ l.length = 2 := fun e => hgood ⟨rfl, e⟩
            rw [bsel_true, decide_eq_false (by omega), Bool.not_false, bsel_true]
        refine .inr ⟨?_, .inl iS⟩
        unfold s_l08Sides
        rw [sc, obind_eq]
        by_cases h1 : (cutL 59 q).length = 1
        · rw [decide_eq_true (by simp; omega), Bool.not_true, bsel_false]
          show obind (some (mkS p)) _ = _
          rw [obind_eq, np, obind2_eq]
          cases o with
          | false => rw [bsel_false]
          | true =>
            have hl : ¬ l.length = 2 := fun e => hgood ⟨rfl, e⟩
            rw [bsel_true, decide_eq_false (by omega), Bool.not_false, bsel_true]
        · rw [decide_eq_false (by simp; omega), Bool.not_false, bsel_true]
  · refine .inr ⟨?_, .inl ?_⟩
    · unfold s_l08Sides
      rw [sc, cutL_none hs, obind_eq]; rfl
    · unfold i_readSides
      rw [cut_miss sm_one hs, obind3_eq, bsel_false, i_list_eq hb]
      cases rl (byt a0) with
      | mk o l => cases o <;> rfl
theorem matrix_valid (a0 a1 : Int) {a2 : List F} (g2 : FOks a2) (h2 : a2.length ≤ 1048576) : ∃ v : Bool, s_l02Is a0 a1 a2 = some v ∧ i_ValidMatrix a0 a1 a2 = some v := by
  unfold s_l02Is s_l02Sides i_ValidMatrix i_isSide i_length_float32
  rw [s_l02Finite_eq g2 h2, i_areFinite_eq g2 h2]
  simp only [s_l00In_eq, i_inRange_eq, obind_eq, olet_eq]
  have ir : ∀ x : Int, (decide (1 ≤ x) && decide (x ≤ 12)) = inR 1 12 x := fun _ => rfl
  simp only [ir]
  cases inR 1 12 a0
  · exact ⟨false, rfl, rfl⟩
  · cases inR 1 12 a1
    · exact ⟨false, rfl, rfl⟩
    · cases decide ((a2.length : Int) = IntKind.i64.wrap (a0 * a1))
      · exact ⟨false, rfl, rfl⟩
      · exact ⟨_, rfl, rfl⟩
theorem ReadMatrix_eq (a0 : ByteArray) (h : a0.size ≤ 1048576) : ∃ (z0 z1 : Int) (z2 : Bool) (z3 : List F), s_ReadMatrix a0 = some (z0, z1, z2, z3) ∧ i_ReadMatrix a0 = some (z0, z1, z2, z3) ∧ z3.length ≤ 1048576 := by
  rcases sides_eq h with ⟨x, y, q, hq, sS, iS⟩ | ⟨sS, hi⟩
  · have lq : i_ReadNumbers (mkS q) = some (rlF q) := by rw [iF_eq (by rw [byt_mk]; omega), byt_mk]
    have nq : s_l01NRead (mkS q) = some (rlF q) := by rw [sF_eq (by rw [byt_mk]; omega), byt_mk]
    have bq := rlF_len q
    cases hr2 : rlF q with
    | mk o2 l2 =>
      rw [hr2] at lq nq bq
      obtain ⟨hl64, hok⟩ := bq
      have hl64 : l2.length ≤ 256 := hl64
      obtain ⟨v, v1, v2⟩ := matrix_valid x y (a2 := l2) hok (by omega)
      cases o2 with
      | false =>
        refine ⟨0, 0, false, [], ?_, ?_, by simp⟩
        · unfold s_ReadMatrix s_l08ReadMatrix
          rw [sS, obind4_eq, bsel_true, nq]; rfl
        · unfold i_ReadMatrix
          rw [iS, obind4_eq, bsel_true, lq]; rfl
      | true =>
        have gS : s_l02Give_02o x y l2 = some (bif v then .inl (x, y, true, l2) else .inr (0, 0, false, l2, [])) := by
          unfold s_l02Give_02o
          rw [v1, obind_eq]
          cases v <;> rfl
        have gI : i_Matrix_valid_02o x y l2 = some (bif v then .inl (x, y, true, l2) else .inr (0, 0, false, l2, [])) := by
          unfold i_Matrix_valid_02o
          rw [v2, obind_eq]
          cases v <;> rfl
        cases v with
        | false =>
          refine ⟨0, 0, false, [], ?_, ?_, by simp⟩
          · unfold s_ReadMatrix s_l08ReadMatrix
            rw [sS, obind4_eq, bsel_true, nq, obind2_eq, bsel_true, gS, obind_eq]
            simp [osum, obind5_eq, need_true, obind4_eq]
          · unfold i_ReadMatrix
            rw [iS, obind4_eq, bsel_true, lq, obind2_eq, bsel_true, gI, obind_eq]
            simp [osum, obind5_eq, need_true]
        | true =>
          refine ⟨x, y, true, l2, ?_, ?_, by omega⟩
          · unfold s_ReadMatrix s_l08ReadMatrix
            rw [sS, obind4_eq, bsel_true, nq, obind2_eq, bsel_true, gS, obind_eq]
            simp [osum, obind4_eq, need_true]
          · unfold i_ReadMatrix
            rw [iS, obind4_eq, bsel_true, lq, obind2_eq, bsel_true, gI, obind_eq]
            simp [osum, obind4_eq, need_true]
  · refine ⟨0, 0, false, [], ?_, ?_, by simp⟩
    · unfold s_ReadMatrix s_l08ReadMatrix
      rw [sS]; rfl
    · unfold i_ReadMatrix
      rcases hi with iS | ⟨x, y, q, hq, hl, iS⟩
      · rw [iS, obind4_eq, bsel_false, iF_eq (by decide)]
        cases rlF (byt lit_99ba06bc) with
        | mk o l => cases o <;> rfl
      · have lq : i_ReadNumbers (mkS q) = some (rlF q) := by rw [iF_eq (by rw [byt_mk]; omega), byt_mk]
        rw [iS, obind4_eq, bsel_true, lq, rlF_semi hq]; rfl
theorem w_FnExactReadMatrix_true (a0 : ByteArray)  : w_FnExactReadMatrix a0 = some true := by
  rcases Nat.lt_or_ge 1048576 a0.size with cb0 | t_a0
  · have db : decide ((1048576 : Int) < (a0.size : Int)) = true := decide_eq_true (by omega)
    simp [w_FnExactReadMatrix, w_eqMatrix, w_heldMatrix, w_markMatrix_02o, db]
  have db0 : decide ((1048576 : Int) < (a0.size : Int)) = false := decide_eq_false (by omega)
  obtain ⟨z0, z1, z2, z3, p1, p2, b_z3⟩ := ReadMatrix_eq a0 t_a0
  have f1 : w_eqFloat32S z3 z3 = some true := w_eqFloat32S_refl z3 b_z3
  have f2 : (!(z2 == z2)) = false := by cases z2 <;> rfl
  have f3 : w_markFloat32S_0o 1 z3 = some ((1 + (z3.length : Int)), marks 1 z3.length) := w_markFloat32S_0o_eq 1 z3 (by omega) (by omega) b_z3
  have f4 : w_heldFloat32S (marks 1 z3.length) 1 = some (1 + (z3.length : Int)) := w_heldFloat32S_eq 1 z3.length (by omega) (by omega) b_z3
  have f5 : decide ((1 + (z3.length : Int)) < 0) = false := by simp <;> omega
  simp only [w_FnExactReadMatrix, w_eqMatrix, w_heldMatrix, w_markMatrix_02o, db0, p1, p2, f1, f2, f3, f4, f5, obind_eq, obind2_eq, obind3_eq, obind4_eq, obind5_eq, obind6_eq, obind7_eq, obind8_eq, bsel_true, bsel_false, need_true, olet_eq, marks_len, marksI_len, decide_true, Bool.not_true, Bool.not_false]

end Go.Proofs.YticpoofjnfiebaaGreatDoor
