/- The plain law of FnExactMatrixText. -/
import Derived.Test.YtddegdokdpeboaaDoorG1
namespace Go.Proofs.YtddegdokdpeboaaDoor
set_option linter.unusedSimpArgs false
set_option linter.unusedVariables false
open Go Go.AM
def Small {α : Type} (l : List α) : Prop := l.length ≤ 9223372036854775807
theorem sz_one (n : Nat) (a : Int) (hn : n ≤ 9223372036854775807) (h0 : 0 ≤ a) (h1 : a ≤ 1048576) :
    ∃ r, olet (IntKind.i64.wrap (a - (n : Int))) (fun x1 => bsel (decide (x1 < 0)) (some (-1)) (some x1)) = some r ∧ (0 ≤ r → (n : Int) ≤ a ∧ r ≤ a) := by
  rw [wrap_i64 (by omega) (by omega)]
  simp only [olet_eq, bsel_if, decide_eq_true_eq]
  split
  · exact ⟨_, rfl, fun h => by omega⟩
  · exact ⟨_, rfl, fun h => by omega⟩
theorem w_szFloat32S_ex (l : List F) (a : Int) (hn : Small l) (h0 : 0 ≤ a) (h1 : a ≤ 1048576) : ∃ r, w_szFloat32S l a = some r ∧ (0 ≤ r → (l.length : Int) ≤ a ∧ r ≤ a) := sz_one l.length a hn h0 h1
theorem w_toFloat32S_eq (a : List F) (h : a.length ≤ 1048576) : w_toFloat32S a = some a := by
  unfold w_toFloat32S
  have hm : mkok 4 (a.length : Int) = true := by simp [mkok]; omega
  rw [hm, need_true, loop_copy (a := a) (ρ := List F) ?_ ?_ _ (by simp)]
  · rfl
  · intro L v x h0 hv hx hL
    show w_toFloat32S_b1 a L v = _
    unfold w_toFloat32S_b1
    have hs := setAt?_of (l := L) (x := x) h0 (by omega)
    simp [bsel_if, hv, at?_of h0 hx, hs, wrap_succ h0 hv (by omega : a.length ≤ 9223372036854775807)]
  · intro L hL
    show w_toFloat32S_b1 a L (a.length : Int) = _
    unfold w_toFloat32S_b1
    simp [bsel_if]
theorem w_sameFloat_refl (c : F) : w_sameFloat c c = some true := by
  unfold w_sameFloat
  cases h : feq .f64 c c <;> simp [w_sameFloat_k1, h, bsel_if]
theorem w_eqFloat32S_refl (a : List F) (h : a.length ≤ 1048576) : w_eqFloat32S a a = some true := by
  unfold w_eqFloat32S
  rw [loop_eq (l := a) (m := a) rfl ?_ ?_]
  · simp [bsel_if, w_eqFloat32S_k1]
  · intro v x y h0 hv hx hy
    rw [hx] at hy; cases hy
    show w_eqFloat32S_b1 a a v = _
    unfold w_eqFloat32S_b1
    rw [at?_of h0 hx, wrap_succ h0 hv (by omega)]
    simp [bsel_if, hv, w_sameFloat_refl]
  · show w_eqFloat32S_b1 a a (a.length : Int) = _
    unfold w_eqFloat32S_b1
    simp [bsel_if]
def FOks (l : List F) : Prop := ∀ c ∈ l, FOk .f32 c
theorem FOks.at {l : List F} (h : FOks l) {i : Nat} {c : F} (e : l[i]? = some c) : FOk .f32 c := h c (List.mem_of_getElem? e)
theorem s_l00In_eq (n lo hi : Int) : s_l00In n lo hi = some (decide (lo ≤ n) && decide (n ≤ hi)) := by
  unfold s_l00In; cases decide (lo ≤ n) <;> rfl
theorem i_inRange_eq (n lo hi : Int) : i_inRange n lo hi = some (decide (lo ≤ n) && decide (n ≤ hi)) := by
  unfold i_inRange; cases decide (lo ≤ n) <;> rfl
theorem s_l01Finite_eq {c : F} (h : FOk .f32 c) : s_l01Finite c = some (fin32 c) := by
  unfold s_l01Finite; rw [olet_eq, sub_self h]
theorem s_l02Finite_eq {a : List F} (ha : FOks a) (sa : a.length ≤ 1048576) : s_l02Finite a = some (a.all fin32) := by
  unfold s_l02Finite
  rw [loop_all (l := a) (p := fin32) false ?_ ?_]
  · cases h : a.all fin32 <;> simp [s_l02Finite_k1]
  · intro v x h0 hv hx
    show s_l02Finite_b1 a v = _
    unfold s_l02Finite_b1
    rw [at?_of h0 hx, wrap_succ h0 hv (by omega)]
    simp [bsel_if, hv, s_l01Finite_eq (ha.at hx)]
  · show s_l02Finite_b1 a (a.length : Int) = _
    unfold s_l02Finite_b1
    simp [bsel_if]
theorem i_IsFinite_eq {c : F} (h : FOk .f32 c) : i_IsFinite c = some (fin32 c) := by
  unfold i_IsFinite i_isFinite64 x_math_IsNaN x_math_IsInf x_math_Abs x_math_IsInf_k1
  cases c with
  | none => simp [fwiden, fin32]
  | some b =>
    have hw := feq_refl (k := .f64) (b := FloatKind.f64.encode (FloatKind.f32.decode b)) (fwiden_ok h)
    have hw' : feq .f64 (fwiden (some b)) (fwiden (some b)) = true := hw
    have hm := fabs_max h (by simp)
    simp only [olet_eq, obind_eq, hw', Bool.not_true, bsel_false, decide_true, bsel_true, hm, Bool.not_not]
theorem i_areFinite_1_eq {c : F} (h : FOk .f32 c) : i_areFinite_1 c = some (!fin32 c) := by
  unfold i_areFinite_1; rw [i_IsFinite_eq h]; rfl
theorem any_not {α : Type} (l : List α) (p : α → Bool) : l.any (fun x => !p x) = !l.all p := by
  induction l with
  | nil => rfl
  | cons a l ih => simp [ih]
theorem i_areFinite_eq {a : List F} (ha : FOks a) (sa : a.length ≤ 1048576) : i_areFinite a = some (a.all fin32) := by
  unfold i_areFinite x_slices_ContainsFunc_float32_float32_1Fi_areFinite_1 x_slices_IndexFunc_float32_float32_1Fi_areFinite_1
  obtain ⟨r, h1, h2⟩ := loop_find (l := a) (p := fun c => !fin32 c) (step := x_slices_IndexFunc_float32_float32_1Fi_areFinite_1_s1 a) (by
    intro v x h0 hv hx
    show x_slices_IndexFunc_float32_float32_1Fi_areFinite_1_b1 a v = _
    unfold x_slices_IndexFunc_float32_float32_1Fi_areFinite_1_b1
    rw [at?_of h0 hx, wrap_succ h0 hv (by omega)]
    simp [bsel_if, hv, i_areFinite_1_eq (ha.at hx)]) (by
    show x_slices_IndexFunc_float32_float32_1Fi_areFinite_1_b1 a (a.length : Int) = _
    unfold x_slices_IndexFunc_float32_float32_1Fi_areFinite_1_b1
    simp [bsel_if])
  rw [h1, any_not]
  cases h : a.all fin32 <;> simp [x_slices_IndexFunc_float32_float32_1Fi_areFinite_1_k1, h2]
def inR (lo hi n : Int) : Bool := decide (lo ≤ n) && decide (n ≤ hi)
def marks (k : Int) (n : Nat) : List F := (List.range n).map fun (i : Nat) => fint .f32 (k + (i : Int))
def marksI (k : Int) (n : Nat) : List Int := (List.range n).map fun (i : Nat) => k + (i : Int)
theorem marks_len (k : Int) (n : Nat) : (marks k n).length = n := by simp [marks]
theorem marksI_len (k : Int) (n : Nat) : (marksI k n).length = n := by simp [marksI]
abbrev q1 : List F := [some 1073741824, some 1065353216, some 1065353216, some 1073741824]
def side (n : Int) : Bool := decide (1 ≤ n) && decide (n ≤ 12)
theorem s_l02Sides_eq (x y : Int) : s_l02Sides x y = some (side x && side y) := by
  unfold s_l02Sides; rw [s_l00In_eq, s_l00In_eq]; unfold side
  cases decide (1 ≤ x) <;> cases decide (x ≤ 12) <;> rfl
theorem i_isSide_eq (x : Int) : i_isSide x = some (side x) := by
  unfold i_isSide; rw [i_inRange_eq]; rfl
def validM (a0 a1 : Int) (a2 : List F) : Bool := side a0 && side a1 && decide ((a2.length : Int) = IntKind.i64.wrap (a0 * a1)) && a2.all fin32
theorem s_l02Is_eq (a0 a1 : Int) {a2 : List F} (g2 : FOks a2) (s2 : a2.length ≤ 1048576) : s_l02Is a0 a1 a2 = some (validM a0 a1 a2) := by
  unfold s_l02Is validM
  rw [s_l02Sides_eq, s_l02Finite_eq g2 s2]
  cases side a0 <;> cases side a1 <;> simp [bsel_if] <;> split <;> simp_all
theorem i_ValidMatrix_eq (a0 a1 : Int) {a2 : List F} (g2 : FOks a2) (s2 : a2.length ≤ 1048576) : i_ValidMatrix a0 a1 a2 = some (validM a0 a1 a2) := by
  unfold i_ValidMatrix i_length_float32 validM
  rw [i_isSide_eq, i_isSide_eq, i_areFinite_eq g2 s2]
  cases side a0 <;> cases side a1 <;> simp [bsel_if] <;> split <;> simp_all
theorem FOks.getD {l : List F} (h : FOks l) (n : Nat) : FOk .f32 (l.getD n none) := by
  simp only [List.getD]
  cases e : l[n]? with
  | none => exact fok_none _
  | some c => exact h.at e
theorem FOks.set {l : List F} (h : FOks l) {n : Nat} {x : F} (hx : FOk .f32 x) : FOks (l.set n x) := by
  intro c hc
  rcases List.mem_or_eq_of_mem_set hc with h1 | h1
  · exact h c h1
  · exact h1 ▸ hx
abbrev gI (l : List Int) (i : Nat) : Int := l.getD i 0
structure SpIn (S : Nat) (a1 a2 : List Int) : Prop where
  S1 : 1 ≤ S
  S2 : S ≤ 32
  l1 : a1.length = S + 1
  l2 : a2.length ≤ 512
  z : gI a1 0 = 0
  e : gI a1 S = (a2.length : Int)
structure SpGood (S : Nat) (a1 a2 : List Int) : Prop where
  s : ∀ i, i < S → gI a1 i ≤ gI a1 (i + 1)
  c : ∀ k, k < a2.length → 0 ≤ gI a2 k ∧ gI a2 k ≤ (S : Int) - 1
  o : ∀ i, i < S → ∀ k : Nat, gI a1 i < (k : Int) → (k : Int) < gI a1 (i + 1) → gI a2 (k - 1) < gI a2 k
theorem SpGood.mono {S : Nat} {a1 a2 : List Int} (h : SpGood S a1 a2) : ∀ (d i : Nat), i + d ≤ S → gI a1 i ≤ gI a1 (i + d)
  | 0, i, _ => Int.le_refl _
  | d + 1, i, hd => Int.le_trans (h.mono d i (by omega)) (h.s (i + d) (by omega))
theorem SpGood.lo {S : Nat} {a1 a2 : List Int} (h : SpGood S a1 a2) (i0 : SpIn S a1 a2) {i : Nat} (hi : i ≤ S) : 0 ≤ gI a1 i ∧ gI a1 i ≤ (a2.length : Int) := by
  have h1 := h.mono i 0 (by omega)
  have h2 := h.mono (S - i) i (by omega)
  rw [Nat.zero_add, i0.z] at h1
  rw [show i + (S - i) = S by omega, i0.e] at h2
  exact ⟨h1, h2⟩
structure SpOk (S : Nat) (a1 a2 : List Int) (a3 : List F) : Prop where
  i : SpIn S a1 a2
  g : SpGood S a1 a2
  l : a3.length = a2.length
theorem SpOk.row {S : Nat} {a1 a2 : List Int} {a3 : List F} (h : SpOk S a1 a2 a3) {i : Nat} (hi : i < S) : 0 ≤ gI a1 i ∧ gI a1 i ≤ gI a1 (i + 1) ∧ gI a1 (i + 1) ≤ (a2.length : Int) :=
  ⟨(h.g.lo h.i (by omega)).1, h.g.s i hi, (h.g.lo h.i (i := i + 1) (by omega)).2⟩
def loK (a1 : List Int) (i : Nat) : Nat := (gI a1 i).toNat
def laK (a1 : List Int) (i : Nat) : Nat := (gI a1 (i + 1)).toNat - 1
structure Root (S : Nat) (a1 a2 : List Int) (a3 : List F) : Prop where
  ok : SpOk S a1 a2 a3
  low : ∀ i, i < S → gI a1 i ≤ gI a1 (i + 1) - 1 ∧ gI a2 (laK a1 i) = (i : Int)
theorem Root.at {S : Nat} {a1 a2 : List Int} {a3 : List F} (h : Root S a1 a2 a3) {i : Nat} (hi : i < S) : loK a1 i ≤ laK a1 i ∧ laK a1 i < a2.length ∧ ((laK a1 i : Nat) : Int) = gI a1 (i + 1) - 1 ∧ ((loK a1 i : Nat) : Int) = gI a1 i := by
  obtain ⟨r1, r2, r3⟩ := h.ok.row hi
  obtain ⟨q1, _⟩ := h.low i hi
  unfold loK laK
  omega
def vget (v : List F) (x : Int) : F := v.getD x.toNat none
def Names (n : Nat) (L : List Int) : Prop := ∀ x ∈ L, 0 ≤ x ∧ x < (n : Int)
theorem Names.at {n : Nat} {L : List Int} (h : Names n L) {j : Nat} (hj : j < L.length) : 0 ≤ L.getD j 0 ∧ L.getD j 0 < (n : Int) := by
  rw [List.getD_eq_getElem?_getD, List.getElem?_eq_getElem hj]
  exact h _ (List.getElem_mem hj)
theorem Names.set {n : Nat} {L : List Int} (h : Names n L) {j : Nat} {x : Int} (hx : 0 ≤ x ∧ x < (n : Int)) : Names n (L.set j x) := fun y hy => (List.mem_or_eq_of_mem_set hy).elim (fun k => h y k) (fun k => by rw [k]; exact hx)
theorem vget_mem {v : List F} {x : Int} (h0 : 0 ≤ x) (h1 : x < (v.length : Int)) : vget v x ∈ v := by
  unfold vget
  rw [List.getD_eq_getElem?_getD, List.getElem?_eq_getElem (by omega)]
  exact List.getElem_mem _
def wkey (c : F) : Nat := c.getD 0
def sqW (v : List F) (x : Int) : Nat := wkey (vget v x)
def SqOk (v : List F) : Prop := ∀ c ∈ v, ∃ b, c = some b ∧ b ≤ 2139095040
theorem SqOk.at {v : List F} (h : SqOk v) {x : Int} (h0 : 0 ≤ x) (h1 : x < (v.length : Int)) : vget v x = some (sqW v x) ∧ sqW v x ≤ 2139095040 := by
  obtain ⟨b, e, hb⟩ := h _ (vget_mem h0 h1)
  unfold sqW
  rw [e]; exact ⟨rfl, hb⟩
def mkS (l : List UInt8) : ByteArray := ⟨l.toArray⟩
def byt (s : ByteArray) : List UInt8 := s.data.toList
theorem byt_mk (l : List UInt8) : byt (mkS l) = l := by simp [byt, mkS]
theorem mk_byt (s : ByteArray) : mkS (byt s) = s := Go.Lib.mk_data s
theorem siz (s : ByteArray) : s.size = (byt s).length := Go.Lib.size_eq s
theorem eqs_iff {s t : ByteArray} : eqs s t = decide (byt s = byt t) := by
  unfold eqs byt
  rw [Bool.eq_iff_iff]; simp only [beq_iff_eq, decide_eq_true_eq]
theorem wi64 {n : Int} (h0 : -9000000000000000000 ≤ n) (h1 : n ≤ 9000000000000000000) : IntKind.i64.wrap n = n := wrap_i64 (by omega) (by omega)
theorem natAbs_digit (v : Int) (hv : v.natAbs ≤ 9223372036854775808) : (v.tmod 10 < 0 → IntKind.i64.wrap (0 - v.tmod 10) = ((v.natAbs % 10 : Nat) : Int)) ∧ (¬ v.tmod 10 < 0 → v.tmod 10 = ((v.natAbs % 10 : Nat) : Int)) := by
  have h : (v.tmod 10).natAbs = v.natAbs % 10 := Int.natAbs_tmod v 10
  have h9 : v.natAbs % 10 < 10 := Nat.mod_lt _ (by decide)
  constructor
  · intro hn
    rw [wi64 (by omega) (by omega)]; omega
  · intro hn; omega
theorem natAbs_next (v : Int) : (v.tdiv 10).natAbs = v.natAbs / 10 := Int.natAbs_tdiv v 10
theorem u8_wrap {n : Int} (h0 : 0 ≤ n) (h1 : n < 256) : IntKind.u8.wrap n = n := by
  simp only [IntKind.wrap, IntKind.bits, IntKind.signed]
  simp
  omega
def decI (u : Nat) : List Int := (Go.Lib.decDigits u).map fun b => (b.toNat : Int)
def digI (u : Nat) : List Int := if u = 0 then [] else decI u
theorem decI_small {u : Nat} (h : u < 10) : decI u = [((48 + u : Nat) : Int)] := by
  unfold decI
  rw [Go.Lib.decDigits, dif_pos h]
  have : (UInt8.ofNat (48 + u)).toNat = 48 + u := by simp; omega
  show [((UInt8.ofNat (48 + u)).toNat : Int)] = _
  rw [this]
theorem decI_big {u : Nat} (h : ¬ u < 10) : decI u = decI (u / 10) ++ [((48 + u % 10 : Nat) : Int)] := by
  unfold decI
  conv => lhs; rw [Go.Lib.decDigits, dif_neg h]
  have : (UInt8.ofNat (48 + u % 10)).toNat = 48 + u % 10 := by simp; omega
  rw [List.map_append]
  show _ ++ [((UInt8.ofNat (48 + u % 10)).toNat : Int)] = _
  rw [this]
theorem digI_step {u : Nat} : decI u = digI (u / 10) ++ [((48 + u % 10 : Nat) : Int)] := by
  by_cases h : u < 10
  · rw [decI_small h, show u / 10 = 0 from by omega, show u % 10 = u from by omega]; rfl
  · rw [decI_big h]
    unfold digI
    rw [if_neg (by omega)]
theorem dec_step {l : List Int} {v : Int} (hl : l.length ≤ 100) (hv : v.natAbs ≤ 9223372036854775808) : s_l01Dec_k5 l v = some (.next (((48 + v.natAbs % 10 : Nat) : Int) :: l, v.tdiv 10)) := by
  obtain ⟨d1, d2⟩ := natAbs_digit v hv
  have h9 : v.natAbs % 10 < 10 := Nat.mod_lt _ (by decide)
  have hn := natAbs_next v
  have key : s_l01Dec_k6 l v ((v.natAbs % 10 : Nat) : Int) = some (.next (((48 + v.natAbs % 10 : Nat) : Int) :: l, v.tdiv 10)) := by
    unfold s_l01Dec_k6
    simp only [olet_eq]
    rw [wi64 (n := 48 + ((v.natAbs % 10 : Nat) : Int)) (by omega) (by omega), u8_wrap (by omega) (by omega), show apok 1 1 l.length = true from by simp only [apok, Bool.and_eq_true, decide_eq_true_eq]; omega, need_true, show (!decide (10 = 0)) = true from rfl, need_true, wi64 (by omega) (by omega)]
    simp
  unfold s_l01Dec_k5
  rw [show (!decide (10 = 0)) = true from rfl, need_true]
  simp only [olet_eq]
  by_cases h : v.tmod 10 < 0
  · rw [decide_eq_true h, bsel_true, d1 h, key]
  · rw [decide_eq_false h, bsel_false, d2 h, key]
theorem dec_loop : ∀ (k : Nat) (v : Int) (l : List Int), v.natAbs < 10 ^ k → v.natAbs ≤ 9223372036854775808 → 0 < l.length → l.length + k ≤ 100 → loopM s_l01Dec_s7 (l, v) = some (.inl (digI v.natAbs ++ l))
  | 0, v, l, h, _, hl, hk => by
    have hv : v.natAbs = 0 := by simpa using h
    have hv0 : v = 0 := by omega
    rw [loopM_out (e := l)]
    · rw [hv]; rfl
    · show s_l01Dec_b7 l v = _
      unfold s_l01Dec_b7
      rw [decide_eq_false (by omega), bsel_false, hv0]; rfl
  | k + 1, v, l, h, h64, hl, hk => by
    by_cases hv0 : v = 0
    · subst hv0
      rw [loopM_out (e := l)]
      · rfl
      · show s_l01Dec_b7 l 0 = _
        unfold s_l01Dec_b7
        rw [decide_eq_false (by omega), bsel_false]; rfl
    · have e : s_l01Dec_s7 (l, v) = some (.next (((48 + v.natAbs % 10 : Nat) : Int) :: l, v.tdiv 10)) := by
        show s_l01Dec_b7 l v = _
        unfold s_l01Dec_b7
        rw [decide_eq_false (by omega), bsel_false, decide_eq_false hv0, Bool.not_false, bsel_true, dec_step (by omega) h64]
      rw [loopM_next e, dec_loop k _ _ (by rw [natAbs_next]; rw [Nat.pow_succ] at h; omega) (by rw [natAbs_next]; omega) (by simp) (by simp; omega), natAbs_next]
      have : digI v.natAbs = decI v.natAbs := by unfold digI; rw [if_neg (by omega)]
      rw [this, digI_step]; simp
theorem str_decI (u : Nat) : (decI u).map (fun n => UInt8.ofNat n.toNat) = Go.Lib.decDigits u := by
  unfold decI
  rw [List.map_map]
  conv => rhs; rw [← List.map_id (Go.Lib.decDigits u)]
  exact List.map_congr_left fun b _ => by simp
theorem decI_len (u : Nat) (h : u < 10 ^ 20) : (decI u).length ≤ 20 := by
  have key : ∀ (k u : Nat), u < 10 ^ (k + 1) → (decI u).length ≤ k + 1 := by
    intro k
    induction k with
    | zero => intro u h; rw [decI_small (by simpa using h)]; simp
    | succ k ih =>
      intro u h
      by_cases hs : u < 10
      · rw [decI_small hs]; simp
      · rw [decI_big hs]
        have := ih (u / 10) (by rw [Nat.pow_succ] at h; omega)
        simp; omega
  exact key 19 u h
theorem s_dec_eq {n : Int} (h : n.natAbs ≤ 9223372036854775808) : s_l01Dec n = some (mkS (Go.Lib.itoa n)) := by
  have h20 : n.natAbs < 10 ^ 20 := by have : (9223372036854775808 : Nat) < 10 ^ 20 := by decide
                                      omega
  have e : s_l01Dec_s7 ([], n) = some (.next ([((48 + n.natAbs % 10 : Nat) : Int)], n.tdiv 10)) := by
    show s_l01Dec_b7 [] n = _
    unfold s_l01Dec_b7
    rw [show decide ((([] : List Int).length : Int) = 0) = true from rfl, bsel_true, dec_step (by simp) h]
  have l2 : loopM s_l01Dec_s7 ([], n) = some (.inl (decI n.natAbs)) := by
    rw [loopM_next e, dec_loop 20 _ _ (by rw [natAbs_next]; omega) (by rw [natAbs_next]; omega) (by simp) (by simp), natAbs_next, digI_step]
  have hd := decI_len n.natAbs h20
  unfold s_l01Dec
  rw [l2]
  show s_l01Dec_k7 n (decI n.natAbs) = _
  unfold s_l01Dec_k7 s_l01Dec_k8
  by_cases hn : n < 0
  · rw [decide_eq_true hn, bsel_true, show apok 1 1 (decI n.natAbs).length = true from by simp only [apok, Bool.and_eq_true, decide_eq_true_eq]; omega, need_true]
    unfold Go.Lib.itoa
    rw [if_pos hn]
    unfold strOfNums mkS
    rw [List.map_append, str_decI]; rfl
  · rw [decide_eq_false hn, bsel_false]
    unfold Go.Lib.itoa
    rw [if_neg hn]
    unfold strOfNums mkS
    rw [str_decI, show n.natAbs = n.toNat from by omega]
theorem i_dec_eq {n : Int} (h0 : -9223372036854775808 ≤ n) (h1 : n ≤ 9223372036854775807) : i_Decimal n = some (mkS (Go.Lib.itoa n)) := by
  unfold i_Decimal x_strconv_FormatInt
  rw [show decide ((10 : Int) = 10) = true from rfl, need_true, decide_eq_true h0, need_true, decide_eq_true h1, need_true]; rfl
theorem cats_mk {a b : List UInt8} (h : a.length + b.length ≤ 1000000000) : cats? (mkS a) (mkS b) = some (mkS (a ++ b)) := by
  unfold cats?
  rw [if_pos (by rw [siz, siz, byt_mk, byt_mk]; omega)]
  refine congrArg some ?_
  rw [← mk_byt (mkS a ++ mkS b)]
  refine congrArg mkS ?_
  show (mkS a ++ mkS b).data.toList = _
  simp [mkS]
theorem itoa_len {n : Int} (h : n.natAbs ≤ 9223372036854775808) : (Go.Lib.itoa n).length ≤ 21 := by
  have h20 : n.natAbs < 10 ^ 20 := by have : (9223372036854775808 : Nat) < 10 ^ 20 := by decide
                                      omega
  have := decI_len n.natAbs h20
  have e : (decI n.natAbs).length = (Go.Lib.decDigits n.natAbs).length := by unfold decI; simp
  unfold Go.Lib.itoa
  split
  · simp; omega
  · rw [show n.toNat = n.natAbs from by omega]; omega
theorem eqs_self (s : ByteArray) : eqs s s = true := by rw [eqs_iff]; simp
def txtL (l : List Int) : List UInt8 := if l = [] then [110, 111, 110, 101] else Go.Lib.join (l.map Go.Lib.itoa) [44]
def Mil (l : List Int) : Prop := ∀ x ∈ l, inR (-1000000) 1000000 x = true
theorem inR_abs {x : Int} (h : inR (-1000000) 1000000 x = true) : x.natAbs ≤ 1000000 := by
  simp [inR] at h; omega
theorem tail_len : ∀ (l : List Int), Mil l → (Go.Lib.joinTail [44] (l.map Go.Lib.itoa)).length ≤ 22 * l.length
  | [], _ => by simp [Go.Lib.joinTail]
  | x :: l, h => by
    have ih := tail_len l (fun y hy => h y (by simp [hy]))
    have hx := itoa_len (n := x) (by have := inR_abs (h x (by simp)); omega)
    simp only [Go.Lib.joinTail, List.map_cons, List.flatten_cons, List.length_append, List.length_cons, List.length_nil] at ih ⊢
    omega
theorem tail_cons (x : Int) (l : List Int) : Go.Lib.joinTail [44] ((x :: l).map Go.Lib.itoa) = [44] ++ Go.Lib.itoa x ++ Go.Lib.joinTail [44] (l.map Go.Lib.itoa) := by
  simp [Go.Lib.joinTail]
theorem drop_at {α : Type} {l : List α} {j : Nat} {x : α} (h : l[j]? = some x) : l.drop j = x :: l.drop (j + 1) := by
  have hj := lt_of_getElem? h
  rw [List.drop_eq_getElem_cons hj]
  rw [List.getElem?_eq_getElem hj] at h
  rw [Option.some.inj h]
theorem text_loop {l : List Int} (hl : l.length ≤ 1048576) (hb : Mil l) : ∀ (k j : Nat) (p : List UInt8), j + k = l.length → p.length + 30 * k ≤ 900000000 → loopM (s_l01Text_s1 l) (mkS p, (j : Int)) = some (.inl (mkS (p ++ Go.Lib.joinTail [44] ((l.drop j).map Go.Lib.itoa))))
  | 0, j, p, hj, hp => by
    have hd : l.drop j = [] := List.drop_eq_nil_of_le (by omega)
    rw [hd, loopM_out (e := mkS p)]
    · simp [Go.Lib.joinTail]
    · show s_l01Text_b1 l (mkS p) (j : Int) = _
      unfold s_l01Text_b1
      rw [decide_eq_false (by omega), bsel_false]
  | k + 1, j, p, hj, hp => by
    obtain ⟨x, hx⟩ : ∃ x, l[j]? = some x := ⟨_, List.getElem?_eq_getElem (by omega)⟩
    have hxa := inR_abs (hb x (List.mem_of_getElem? hx))
    have hil := itoa_len (n := x) (by omega)
    have e : s_l01Text_s1 l (mkS p, (j : Int)) = some (.next (mkS (p ++ ([44] ++ Go.Lib.itoa x)), ((j + 1 : Nat) : Int))) := by
      show s_l01Text_b1 l (mkS p) (j : Int) = _
      unfold s_l01Text_b1
      rw [decide_eq_true (by omega), bsel_true, at?_of (by omega) (by rw [show (j : Int).toNat = j from by omega]; exact hx), obind_eq, s_dec_eq (by omega), obind_eq, show lit_be717853 = mkS [44] from rfl, cats_mk (by simp; omega), obind_eq, cats_mk (by simp; omega), obind_eq]
      simp only [olet_eq]
      rw [wi64 (by omega) (by omega)]; rfl
    rw [loopM_next e, text_loop hl hb k (j + 1) _ (by omega) (by simp; omega), drop_at hx, tail_cons]
    simp
theorem s_text_eq {l : List Int} (hl : l.length ≤ 1048576) (hb : Mil l) : s_l01Text l = some (mkS (txtL l)) := by
  unfold s_l01Text
  cases l with
  | nil => rfl
  | cons x r =>
    have hxa := inR_abs (hb x (by simp))
    have hil := itoa_len (n := x) (by omega)
    simp only [List.length_cons] at hl
    rw [decide_eq_false (by simp; omega), bsel_false, show at? (x :: r) 0 = some x from rfl, obind_eq, s_dec_eq (by omega), obind_eq]
    have e : loopM (s_l01Text_s1 (x :: r)) (mkS (Go.Lib.itoa x), 1) = _ := text_loop (l := x :: r) (by simp; omega) hb r.length 1 (Go.Lib.itoa x) (by simp; omega) (by omega)
    rw [e]
    unfold txtL
    rw [if_neg (by simp), List.map_cons, Go.Lib.join_cons]; rfl
theorem list_loop {l : List Int} (hl : l.length ≤ 1048576) (hb : Mil l) : ∀ (k j : Nat) (L : List ByteArray), j + k = l.length → L.length ≤ j → loopM (i_listText_s1 l) (L, (j : Int)) = some (.inl (L ++ (l.drop j).map fun x => mkS (Go.Lib.itoa x)))
  | 0, j, L, hj, hL => by
    have hd : l.drop j = [] := List.drop_eq_nil_of_le (by omega)
    rw [hd, loopM_out (e := L)]
    · simp
    · show i_listText_b1 l L (j : Int) = _
      unfold i_listText_b1
      rw [decide_eq_false (by omega), bsel_false]
  | k + 1, j, L, hj, hL => by
    obtain ⟨x, hx⟩ : ∃ x, l[j]? = some x := ⟨_, List.getElem?_eq_getElem (by omega)⟩
    have hxa := inR_abs (hb x (List.mem_of_getElem? hx))
    have e : i_listText_s1 l (L, (j : Int)) = some (.next (L ++ [mkS (Go.Lib.itoa x)], ((j + 1 : Nat) : Int))) := by
      show i_listText_b1 l L (j : Int) = _
      unfold i_listText_b1
      rw [decide_eq_true (by omega), bsel_true, at?_of (by omega) (by rw [show (j : Int).toNat = j from by omega]; exact hx), obind_eq, i_dec_eq (by omega) (by omega), obind_eq, show apok 16 L.length 1 = true from by simp only [apok, Bool.and_eq_true, decide_eq_true_eq]; omega, need_true]
      simp only [olet_eq]
      rw [wi64 (by omega) (by omega)]; rfl
    rw [loopM_next e, list_loop hl hb k (j + 1) _ (by omega) (by simp; omega), drop_at hx]
    simp
theorem i_text_eq {l : List Int} (hl : l.length ≤ 1048576) (hb : Mil l) : i_listText l = some (mkS (txtL l)) := by
  have e : loopM (i_listText_s1 l) ([], 0) = some (.inl (l.map fun x => mkS (Go.Lib.itoa x))) := by
    have := list_loop hl hb l.length 0 [] (by omega) (by simp)
    simpa using this
  unfold i_listText
  rw [e]
  show i_listText_k1 (l.map fun x => mkS (Go.Lib.itoa x)) = _
  unfold i_listText_k1 i_joined
  cases l with
  | nil => rfl
  | cons x r =>
    have hxa := inR_abs (hb x (by simp))
    have hil := itoa_len (n := x) (by omega)
    have htl := tail_len r (fun y hy => hb y (by simp [hy]))
    simp only [List.length_cons] at hl
    have hm : ((x :: r).map fun x => mkS (Go.Lib.itoa x)).map (fun s => s.data.toList) = (x :: r).map Go.Lib.itoa := by
      rw [List.map_map]
      exact List.map_congr_left fun y _ => byt_mk _
    have hj : Go.Lib.join ((x :: r).map Go.Lib.itoa) [44] = Go.Lib.itoa x ++ Go.Lib.joinTail [44] (r.map Go.Lib.itoa) := by rw [List.map_cons, Go.Lib.join_cons]
    have js : x_strings_Join ((x :: r).map fun x => mkS (Go.Lib.itoa x)) lit_be717853 = some (mkS (txtL (x :: r))) := by
      unfold x_strings_Join
      rw [hm, show lit_be717853.data.toList = [44] from rfl]
      rw [decide_eq_true (by simp), need_true, decide_eq_true (by simp; omega), need_true, decide_eq_true (by rw [hj]; simp; omega), need_true]
      unfold txtL
      rw [if_neg (by simp)]; rfl
    rw [decide_eq_false (by simp; omega), bsel_false, js, obind_eq, obind_eq]
theorem txt_len {l : List Int} (hb : Mil l) : (txtL l).length ≤ 22 * l.length + 4 := by
  unfold txtL
  cases l with
  | nil => simp
  | cons x r =>
    have hxa := inR_abs (hb x (by simp))
    have hil := itoa_len (n := x) (by omega)
    have htl := tail_len r (fun y hy => hb y (by simp [hy]))
    rw [if_neg (by simp), List.map_cons, Go.Lib.join_cons]
    simp; omega
def hexD (d : Nat) : Int := if d < 10 then 48 + (d : Int) else 87 + (d : Int)
theorem hex_sat {d : Nat} (h : d < 16) : sat? lit_2dfa74a3 (d : Int) = some (hexD d) := by
  match d, h with
  | 0, _ => rfl
  | 1, _ => rfl
  | 2, _ => rfl
  | 3, _ => rfl
  | 4, _ => rfl
  | 5, _ => rfl
  | 6, _ => rfl
  | 7, _ => rfl
  | 8, _ => rfl
  | 9, _ => rfl
  | 10, _ => rfl
  | 11, _ => rfl
  | 12, _ => rfl
  | 13, _ => rfl
  | 14, _ => rfl
  | 15, _ => rfl
  | d + 16, h => exact absurd h (by omega)
theorem hex_sat2 {d : Nat} (h : d < 16) : sat? lit_b1892504 (d : Int) = some (hexD d) := by
  match d, h with
  | 0, _ => rfl
  | 1, _ => rfl
  | 2, _ => rfl
  | 3, _ => rfl
  | 4, _ => rfl
  | 5, _ => rfl
  | 6, _ => rfl
  | 7, _ => rfl
  | 8, _ => rfl
  | 9, _ => rfl
  | 10, _ => rfl
  | 11, _ => rfl
  | 12, _ => rfl
  | 13, _ => rfl
  | 14, _ => rfl
  | 15, _ => rfl
  | d + 16, h => exact absurd h (by omega)
theorem and15 {x : Nat} (h : x < 18446744073709551616) : (BitVec.ofInt 64 (x : Int) &&& BitVec.ofInt 64 15).toNat = x % 16 := by
  have e1 : (BitVec.ofInt 64 (x : Int)).toNat = x := by
    rw [BitVec.ofInt_natCast, BitVec.toNat_ofNat]
    exact Nat.mod_eq_of_lt h
  have e2 : (BitVec.ofInt 64 15).toNat = 15 := by decide
  rw [BitVec.toNat_and, e1, e2]
  exact Nat.and_two_pow_sub_one_eq_mod x 4
theorem iand_i {x : Nat} (h : x < 9000000000000000000) : iand .i64 (x : Int) 15 = ((x % 16 : Nat) : Int) := by
  unfold iand
  show IntKind.i64.wrap (((BitVec.ofInt 64 (x : Int) &&& BitVec.ofInt 64 15).toNat : Nat) : Int) = _
  rw [and15 (by omega), wi64 (by omega) (by omega)]
theorem u64_wrap {n : Int} (h0 : 0 ≤ n) (h1 : n < 18446744073709551616) : IntKind.u64.wrap n = n := by
  simp only [IntKind.wrap, IntKind.bits, IntKind.signed]
  simp
  omega
theorem iand_u {x : Nat} (h : x < 9000000000000000000) : iand .u64 (x : Int) 15 = ((x % 16 : Nat) : Int) := by
  unfold iand
  show IntKind.u64.wrap (((BitVec.ofInt 64 (x : Int) &&& BitVec.ofInt 64 15).toNat : Nat) : Int) = _
  rw [and15 (by omega), u64_wrap (by omega) (by omega)]
theorem ishr_nat {k : IntKind} {x j : Nat} (h : j ≤ k.bits) : ishr k (x : Int) (j : Int) = ((x / 2 ^ j : Nat) : Int) := by
  unfold ishr
  rw [show ((j : Nat) : Int).toNat = j from by omega, Nat.min_eq_left h, Int.fdiv_eq_ediv_of_nonneg _ (by exact Int.le_of_lt (Int.pow_pos (by decide)))]
  push_cast
  rfl
def hxR : Nat → Nat → List Int
  | 0, n => [hexD (n % 16)]
  | k + 1, n => hexD (n / 16 ^ (k + 1) % 16) :: hxR k n
theorem hxR_snoc : ∀ (k n : Nat), hxR (k + 1) n = hxR k (n / 16) ++ [hexD (n % 16)]
  | 0, n => by simp [hxR]
  | k + 1, n => by
    have ih := hxR_snoc k n
    show hexD (n / 16 ^ (k + 2) % 16) :: hxR (k + 1) n = (hexD (n / 16 / 16 ^ (k + 1) % 16) :: hxR k (n / 16)) ++ [hexD (n % 16)]
    rw [ih, Nat.div_div_eq_div_mul, show 16 * 16 ^ (k + 1) = 16 ^ (k + 2) from by rw [Nat.pow_succ 16 (k + 1), Nat.mul_comm]]
    rfl
theorem hxR_len : ∀ (k n : Nat), (hxR k n).length = k + 1
  | 0, n => rfl
  | k + 1, n => by simp [hxR, hxR_len k n]
theorem hex_loop {n : Nat} (hn : n < 4294967296) : ∀ (k : Nat) (L : List Int), k ≤ 7 → L.length + k ≤ 100 → loopM (s_l01Hex_s1 (n : Int)) (L, ((4 * k : Nat) : Int)) = some (.inl (L ++ hxR k n))
  | k, L, hk, hL => by
    have hsh : ishr .i64 (n : Int) ((4 * k : Nat) : Int) = ((n / 16 ^ k : Nat) : Int) := by
      rw [ishr_nat (by show 4 * k ≤ 64; omega), show (2 : Nat) ^ (4 * k) = 16 ^ k from by rw [Nat.pow_mul]]
    have hle : n / 16 ^ k ≤ n := Nat.div_le_self _ _
    have e : s_l01Hex_s1 (n : Int) (L, ((4 * k : Nat) : Int)) = some (.next (L ++ [hexD (n / 16 ^ k % 16)], ((4 * k : Nat) : Int) - 4)) := by
      show s_l01Hex_b1 (n : Int) L ((4 * k : Nat) : Int) = _
      unfold s_l01Hex_b1
      rw [decide_eq_true (by omega), bsel_true]
      simp only [olet_eq]
      rw [u64_wrap (by omega) (by omega), decide_eq_true (by omega), need_true, hsh, iand_i (by omega), hex_sat (Nat.mod_lt _ (by decide)), obind_eq, show apok 1 L.length 1 = true from by simp only [apok, Bool.and_eq_true, decide_eq_true_eq]; omega, need_true, wi64 (by omega) (by omega)]
    rw [loopM_next e]
    cases k with
    | zero =>
      rw [loopM_out (e := L ++ [hexD (n / 16 ^ 0 % 16)])]
      · simp [hxR]
      · show s_l01Hex_b1 (n : Int) _ (((4 * 0 : Nat) : Int) - 4) = _
        unfold s_l01Hex_b1
        rw [decide_eq_false (by omega), bsel_false]
    | succ k =>
      rw [show ((4 * (k + 1) : Nat) : Int) - 4 = ((4 * k : Nat) : Int) from by omega, hex_loop hn k _ (by omega) (by simp at hL ⊢; omega)]
      simp [hxR]
def hxs (n : Nat) : List Int := if n < 16 then [hexD n] else hxs (n / 16) ++ [hexD (n % 16)]
theorem set_drop {α : Type} {L : List α} {j : Nat} {d : α} (h : j < L.length) : (L.set j d).drop j = d :: L.drop (j + 1) := by
  rw [List.drop_eq_getElem_cons (by simpa using h), List.drop_set_of_lt (by omega)]
  simp
theorem fmt_loop : ∀ (k v i : Nat) (L : List Int), v < 16 ^ (k + 1) → v < 9000000000000000000 → k + 1 ≤ i → i ≤ 65 → L.length = 65 →
    ∃ e, loopM (x_internal_strconv_formatBits_s2 4 16 15) (L, (v : Int), (i : Int)) = some (.inl e) ∧ x_internal_strconv_formatBits_k2 false false e.1 e.2.1 e.2.2 = some (strOfNums (hxs v ++ L.drop i), []) := by
  intro k
  induction k with
  | zero =>
    intro v i L hv hv9 hki hi hL
    have hv16 : v < 16 := by simpa using hv
    refine ⟨(L, (v : Int), (i : Int)), loopM_out ?_, ?_⟩
    · show x_internal_strconv_formatBits_b2 4 16 15 L (v : Int) (i : Int) = _
      unfold x_internal_strconv_formatBits_b2
      rw [decide_eq_false (by omega), bsel_false]
    · show x_internal_strconv_formatBits_k2 false false L (v : Int) (i : Int) = _
      unfold x_internal_strconv_formatBits_k2 x_internal_strconv_formatBits_k4 x_internal_strconv_formatBits_k5
      simp only [olet_eq]
      rw [wi64 (by omega) (by omega), hex_sat2 hv16, obind_eq, setAt?_of (by omega) (by omega), obind_eq, bsel_false, bsel_false, show (decide (0 ≤ (i : Int) - 1) && decide ((i : Int) - 1 < ((65 : Nat) : Int))) = true from by simp; omega, need_true]
      rw [show ((i : Int) - 1).toNat = i - 1 from by omega, set_drop (by omega), show i - 1 + 1 = i from by omega]
      unfold hxs
      rw [if_pos hv16]; rfl
  | succ k ih =>
    intro v i L hv hv9 hki hi hL
    by_cases hv16 : v < 16
    · refine ⟨(L, (v : Int), (i : Int)), loopM_out ?_, ?_⟩
      · show x_internal_strconv_formatBits_b2 4 16 15 L (v : Int) (i : Int) = _
        unfold x_internal_strconv_formatBits_b2
        rw [decide_eq_false (by omega), bsel_false]
      · show x_internal_strconv_formatBits_k2 false false L (v : Int) (i : Int) = _
        unfold x_internal_strconv_formatBits_k2 x_internal_strconv_formatBits_k4 x_internal_strconv_formatBits_k5
        simp only [olet_eq]
        rw [wi64 (by omega) (by omega), hex_sat2 hv16, obind_eq, setAt?_of (by omega) (by omega), obind_eq, bsel_false, bsel_false, show (decide (0 ≤ (i : Int) - 1) && decide ((i : Int) - 1 < ((65 : Nat) : Int))) = true from by simp; omega, need_true]
        rw [show ((i : Int) - 1).toNat = i - 1 from by omega, set_drop (by omega), show i - 1 + 1 = i from by omega]
        unfold hxs
        rw [if_pos hv16]; rfl
    · obtain ⟨e, h1, h2⟩ := ih (v / 16) (i - 1) (L.set (i - 1) (hexD (v % 16))) (by rw [Nat.pow_succ] at hv; omega) (by omega) (by omega) (by omega) (by simpa using hL)
      have st : x_internal_strconv_formatBits_s2 4 16 15 (L, (v : Int), (i : Int)) = some (.next (L.set (i - 1) (hexD (v % 16)), ((v / 16 : Nat) : Int), ((i - 1 : Nat) : Int))) := by
        show x_internal_strconv_formatBits_b2 4 16 15 L (v : Int) (i : Int) = _
        unfold x_internal_strconv_formatBits_b2
        have hs : ishr .u64 (v : Int) 4 = ((v / 16 : Nat) : Int) := ishr_nat (k := .u64) (j := 4) (by decide)
        rw [decide_eq_true (by omega), bsel_true]
        simp only [olet_eq]
        rw [wi64 (by omega) (by omega), iand_u (by omega), hex_sat2 (Nat.mod_lt _ (by decide)), obind_eq, setAt?_of (by omega) (by omega), obind_eq, hs, show decide ((0 : Int) ≤ 4) = true from rfl, need_true]
        rw [show ((i : Int) - 1).toNat = i - 1 from by omega, show ((i : Int) - 1) = ((i - 1 : Nat) : Int) from by omega]
      refine ⟨e, by rw [loopM_next st]; exact h1, ?_⟩
      rw [h2, set_drop (by omega), show i - 1 + 1 = i from by omega]
      conv => rhs; unfold hxs
      rw [if_neg hv16]; simp
theorem pow2_16 : x_internal_strconv_isPowerOfTwo 16 = some true := by kernel_rfl
theorem tz_16 : x_math_bits_TrailingZeros 16 = some 4 := by kernel_rfl
theorem fmt16_eq {n : Nat} (hn : n < 4294967296) : x_strconv_FormatInt_16 (n : Int) 16 = some (strOfNums (hxs n)) := by
  obtain ⟨e, h1, h2⟩ := fmt_loop 7 n 65 (List.replicate 65 (0 : Int)) (by have : (16 : Nat) ^ (7 + 1) = 4294967296 := by decide
                                                                          omega) (by omega) (by omega) (by omega) List.length_replicate
  have hd : (List.replicate 65 (0 : Int)).drop 65 = [] := rfl
  rw [hd, List.append_nil] at h2
  have h1 : loopM (x_internal_strconv_formatBits_s2 4 16 15) (List.replicate 65 (0 : Int), (n : Int), 65) = some (.inl e) := h1
  have k1 : x_internal_strconv_formatBits_k1 16 false false (n : Int) = some (strOfNums (hxs n), []) := by
    unfold x_internal_strconv_formatBits_k1
    rw [pow2_16, obind_eq, bsel_true]
    simp only [olet_eq]
    rw [u64_wrap (n := 16) (by omega) (by omega), tz_16, obind_eq, u64_wrap (n := 4) (by omega) (by omega), u64_wrap (n := 16 - 1) (by omega) (by omega), show (16 : Int) - 1 = 15 from rfl, h1]
    exact h2
  unfold x_strconv_FormatInt_16 x_internal_strconv_FormatInt x_internal_strconv_formatBits
  rw [show decide ((16 : Int) = 10) = false from rfl, bsel_false]
  simp only [olet_eq]
  rw [u64_wrap (n := (n : Int)) (by omega) (by omega), show decide ((16 : Int) < 2) = false from rfl, bsel_false, bsel_false, show decide ((36 : Int) < 16) = false from rfl, bsel_false, decide_eq_false (by omega), bsel_false, k1]; rfl
theorem hxR_zero : ∀ k : Nat, hxR k 0 = List.replicate (k + 1) 48
  | 0 => rfl
  | k + 1 => by
    show hexD (0 / 16 ^ (k + 1) % 16) :: hxR k 0 = _
    rw [hxR_zero k, Nat.zero_div]; rfl
theorem hxs_len : ∀ (k n : Nat), n < 16 ^ (k + 1) → 1 ≤ (hxs n).length ∧ (hxs n).length ≤ k + 1
  | 0, n, h => by
    unfold hxs
    rw [if_pos (by simpa using h)]; simp
  | k + 1, n, h => by
    unfold hxs
    by_cases hs : n < 16
    · rw [if_pos hs]; simp
    · rw [if_neg hs]
      have := hxs_len k (n / 16) (by rw [Nat.pow_succ] at h; omega)
      simp; omega
theorem pad_eq : ∀ (k n : Nat), n < 16 ^ (k + 1) → List.replicate (k + 1 - (hxs n).length) 48 ++ hxs n = hxR k n
  | 0, n, h => by
    have h16 : n < 16 := by simpa using h
    unfold hxs
    rw [if_pos h16]
    simp [hxR, Nat.mod_eq_of_lt h16]
  | k + 1, n, h => by
    by_cases hs : n < 16
    · rw [hxR_snoc, show n / 16 = 0 from by omega, hxR_zero, Nat.mod_eq_of_lt hs]
      unfold hxs
      rw [if_pos hs]; simp
    · have ih := pad_eq k (n / 16) (by rw [Nat.pow_succ] at h; omega)
      rw [hxR_snoc, ← ih]
      have e : hxs n = hxs (n / 16) ++ [hexD (n % 16)] := by
        conv => lhs; unfold hxs
        rw [if_neg hs]
      rw [e]
      simp
def bitsN (x : F) : Nat := match x with
  | none => 2143289344
  | some b => b
def hexB (x : F) : List UInt8 := (hxR 7 (bitsN x)).map fun n => UInt8.ofNat n.toNat
theorem hexB_len (x : F) : (hexB x).length = 8 := by unfold hexB; rw [List.length_map, hxR_len]
theorem bits_eq {x : F} (h : FOk .f32 x) : s_l01Bits x = some ((bitsN x : Nat) : Int) ∧ i_BitsOf x = some ((bitsN x : Nat) : Int) ∧ bitsN x < 4294967296 := by
  have e : i_BitsOf x = s_l01Bits x := rfl
  rw [e]
  cases x with
  | none => exact ⟨rfl, rfl, by decide⟩
  | some b =>
    obtain ⟨b', hb, hw, hnan⟩ := h
    subst hb
    have hlt : b' < 4294967296 := hw
    have hf : feq .f32 (some b') (some b') = true := feq_refl ⟨b', rfl, hw, hnan⟩
    have k : s_l01Bits (some b') = some (b' : Int) := by
      unfold s_l01Bits
      rw [hf, Bool.not_true, bsel_false, obind_eq]
      simp only [olet_eq]
      rw [wi64 (by omega) (by omega)]
    exact ⟨k, k, hlt⟩
theorem s_hex_eq {x : F} (h : FOk .f32 x) : s_l01Hex x = some (mkS (hexB x)) := by
  obtain ⟨h1, _, h3⟩ := bits_eq h
  have e : loopM (s_l01Hex_s1 ((bitsN x : Nat) : Int)) ([], 28) = _ := hex_loop h3 7 [] (by omega) (by simp)
  unfold s_l01Hex
  rw [h1, obind_eq, e]; rfl
theorem rep48 : ∀ k : Nat, Go.Lib.repeatL [48] k = List.replicate k 48
  | 0 => rfl
  | k + 1 => by
    show [48] ++ Go.Lib.repeatL [48] k = _
    rw [rep48 k]; rfl
theorem i_hex_eq {x : F} (h : FOk .f32 x) : i_digitsOf x = some (mkS (hexB x)) := by
  obtain ⟨_, h2, h3⟩ := bits_eq h
  have h8 : bitsN x < 16 ^ (7 + 1) := by have : (16 : Nat) ^ (7 + 1) = 4294967296 := by decide
                                         omega
  obtain ⟨l1, l2⟩ := hxs_len 7 (bitsN x) h8
  have hsz : ((strOfNums (hxs (bitsN x))).size : Int) = ((hxs (bitsN x)).length : Int) := by rw [strOfNums_size]
  unfold i_digitsOf
  rw [h2, obind_eq, fmt16_eq h3, obind_eq]
  simp only [olet_eq]
  rw [hsz, wi64 (by omega) (by omega)]
  have hr : x_strings_Repeat lit_53dfb3bc (8 - ((hxs (bitsN x)).length : Int)) = some (mkS (List.replicate (8 - (hxs (bitsN x)).length) 48)) := by
    unfold x_strings_Repeat
    rw [decide_eq_true (by omega), need_true, decide_eq_true (by omega), need_true, show lit_53dfb3bc.size = 1 from rfl, decide_eq_true (by omega), need_true, show (8 - ((hxs (bitsN x)).length : Int)).toNat = 8 - (hxs (bitsN x)).length from by omega, show lit_53dfb3bc.data.toList = [48] from rfl, rep48]; rfl
  rw [hr, obind_eq, show strOfNums (hxs (bitsN x)) = mkS ((hxs (bitsN x)).map fun n => UInt8.ofNat n.toNat) from rfl, cats_mk (by simp; omega), obind_eq]
  unfold hexB
  rw [← pad_eq 7 (bitsN x) h8, List.map_append, List.map_replicate]; rfl
def txtF (l : List F) : List UInt8 := if l = [] then [110, 111, 110, 101] else Go.Lib.join (l.map hexB) [44]
theorem tailF_len : ∀ (l : List F), (Go.Lib.joinTail [44] (l.map hexB)).length ≤ 9 * l.length
  | [] => by simp [Go.Lib.joinTail]
  | x :: l => by
    have ih := tailF_len l
    have hx := hexB_len x
    simp only [Go.Lib.joinTail, List.map_cons, List.flatten_cons, List.length_append, List.length_cons, List.length_nil] at ih ⊢
    omega
theorem tailF_cons (x : F) (l : List F) : Go.Lib.joinTail [44] ((x :: l).map hexB) = [44] ++ hexB x ++ Go.Lib.joinTail [44] (l.map hexB) := by
  simp [Go.Lib.joinTail]
theorem textF_loop {l : List F} (hl : l.length ≤ 1048576) (hb : FOks l) : ∀ (k j : Nat) (p : List UInt8), j + k = l.length → p.length + 30 * k ≤ 900000000 → loopM (s_l01NText_s1 l) (mkS p, (j : Int)) = some (.inl (mkS (p ++ Go.Lib.joinTail [44] ((l.drop j).map hexB))))
  | 0, j, p, hj, hp => by
    have hd : l.drop j = [] := List.drop_eq_nil_of_le (by omega)
    rw [hd, loopM_out (e := mkS p)]
    · simp [Go.Lib.joinTail]
    · show s_l01NText_b1 l (mkS p) (j : Int) = _
      unfold s_l01NText_b1
      rw [decide_eq_false (by omega), bsel_false]
  | k + 1, j, p, hj, hp => by
    obtain ⟨x, hx⟩ : ∃ x, l[j]? = some x := ⟨_, List.getElem?_eq_getElem (by omega)⟩
    have hil := hexB_len x
    have e : s_l01NText_s1 l (mkS p, (j : Int)) = some (.next (mkS (p ++ ([44] ++ hexB x)), ((j + 1 : Nat) : Int))) := by
      show s_l01NText_b1 l (mkS p) (j : Int) = _
      unfold s_l01NText_b1
      rw [decide_eq_true (by omega), bsel_true, at?_of (by omega) (by rw [show (j : Int).toNat = j from by omega]; exact hx), obind_eq, s_hex_eq (hb x (List.mem_of_getElem? hx)), obind_eq, show lit_be717853 = mkS [44] from rfl, cats_mk (by simp; omega), obind_eq, cats_mk (by simp; omega), obind_eq]
      simp only [olet_eq]
      rw [wi64 (by omega) (by omega)]; rfl
    rw [loopM_next e, textF_loop hl hb k (j + 1) _ (by omega) (by simp; omega), drop_at hx, tailF_cons]
    simp
theorem s_ntext_eq {l : List F} (hl : l.length ≤ 1048576) (hb : FOks l) : s_l01NText l = some (mkS (txtF l)) := by
  unfold s_l01NText
  cases l with
  | nil => rfl
  | cons x r =>
    have hil := hexB_len x
    simp only [List.length_cons] at hl
    rw [decide_eq_false (by simp; omega), bsel_false, show at? (x :: r) 0 = some x from rfl, obind_eq, s_hex_eq (hb x (by simp)), obind_eq]
    have e : loopM (s_l01NText_s1 (x :: r)) (mkS (hexB x), 1) = _ := textF_loop (l := x :: r) (by simp; omega) hb r.length 1 (hexB x) (by simp; omega) (by omega)
    rw [e]
    unfold txtF
    rw [if_neg (by simp), List.map_cons, Go.Lib.join_cons]; rfl
theorem listF_loop {l : List F} (hl : l.length ≤ 1048576) (hb : FOks l) : ∀ (k j : Nat) (L : List ByteArray), j + k = l.length → L.length ≤ j → loopM (i_numbersText_s1 l) (L, (j : Int)) = some (.inl (L ++ (l.drop j).map fun x => mkS (hexB x)))
  | 0, j, L, hj, hL => by
    have hd : l.drop j = [] := List.drop_eq_nil_of_le (by omega)
    rw [hd, loopM_out (e := L)]
    · simp
    · show i_numbersText_b1 l L (j : Int) = _
      unfold i_numbersText_b1
      rw [decide_eq_false (by omega), bsel_false]
  | k + 1, j, L, hj, hL => by
    obtain ⟨x, hx⟩ : ∃ x, l[j]? = some x := ⟨_, List.getElem?_eq_getElem (by omega)⟩
    have e : i_numbersText_s1 l (L, (j : Int)) = some (.next (L ++ [mkS (hexB x)], ((j + 1 : Nat) : Int))) := by
      show i_numbersText_b1 l L (j : Int) = _
      unfold i_numbersText_b1
      rw [decide_eq_true (by omega), bsel_true, at?_of (by omega) (by rw [show (j : Int).toNat = j from by omega]; exact hx), obind_eq, i_hex_eq (hb x (List.mem_of_getElem? hx)), obind_eq, show apok 16 L.length 1 = true from by simp only [apok, Bool.and_eq_true, decide_eq_true_eq]; omega, need_true]
      simp only [olet_eq]
      rw [wi64 (by omega) (by omega)]; rfl
    rw [loopM_next e, listF_loop hl hb k (j + 1) _ (by omega) (by simp; omega), drop_at hx]
    simp
theorem i_ntext_eq {l : List F} (hl : l.length ≤ 1048576) (hb : FOks l) : i_numbersText l = some (mkS (txtF l)) := by
  have e : loopM (i_numbersText_s1 l) ([], 0) = some (.inl (l.map fun x => mkS (hexB x))) := by
    have := listF_loop hl hb l.length 0 [] (by omega) (by simp)
    simpa using this
  unfold i_numbersText
  rw [e]
  show i_numbersText_k1 (l.map fun x => mkS (hexB x)) = _
  unfold i_numbersText_k1 i_joined
  cases l with
  | nil => rfl
  | cons x r =>
    have hil := hexB_len x
    have htl := tailF_len r
    simp only [List.length_cons] at hl
    have hm : ((x :: r).map fun x => mkS (hexB x)).map (fun s => s.data.toList) = (x :: r).map hexB := by
      rw [List.map_map]
      exact List.map_congr_left fun y _ => byt_mk _
    have hj : Go.Lib.join ((x :: r).map hexB) [44] = hexB x ++ Go.Lib.joinTail [44] (r.map hexB) := by rw [List.map_cons, Go.Lib.join_cons]
    have js : x_strings_Join ((x :: r).map fun x => mkS (hexB x)) lit_be717853 = some (mkS (txtF (x :: r))) := by
      unfold x_strings_Join
      rw [hm, show lit_be717853.data.toList = [44] from rfl]
      rw [decide_eq_true (by simp), need_true, decide_eq_true (by simp; omega), need_true, decide_eq_true (by rw [hj]; simp; omega), need_true]
      unfold txtF
      rw [if_neg (by simp)]; rfl
    rw [decide_eq_false (by simp; omega), bsel_false, js, obind_eq, obind_eq]
theorem txtF_len (l : List F) : (txtF l).length ≤ 9 * l.length + 4 := by
  unfold txtF
  cases l with
  | nil => simp
  | cons x r =>
    have hil := hexB_len x
    have htl := tailF_len r
    rw [if_neg (by simp), List.map_cons, Go.Lib.join_cons]
    simp; omega
theorem MatrixText_eq (a0 a1 : Int) (a2 : List F) (g2 : FOks a2) (t2 : a2.length ≤ 1048576) : ∃ (z0 : ByteArray) (z1 : Bool), s_MatrixText a0 a1 a2 = some (z0, z1) ∧ i_MatrixText a0 a1 a2 = some (z0, z1) := by
  unfold s_MatrixText i_MatrixText
  rw [s_l02Is_eq a0 a1 g2 t2, i_ValidMatrix_eq a0 a1 g2 t2, obind_eq, obind_eq]
  cases hv : validM a0 a1 a2
  · exact ⟨lit_99ba06bc, false, by rw [bsel_false], by rw [bsel_false]⟩
  · have m1 : Mil [a0, a1] := by
      intro x hx
      simp only [List.mem_cons, List.mem_nil_iff, or_false] at hx
      simp [validM, side] at hv
      simp [inR]
      rcases hx with rfl | rfl <;> omega
    have l1 := txt_len m1
    have l2 := txtF_len a2
    have hs : s_l08Matrix a0 a1 a2 = some (mkS ((txtL [a0, a1] ++ [59]) ++ txtF a2)) := by
      unfold s_l08Matrix
      rw [s_text_eq (by simp) m1, obind_eq, show lit_b7340269 = mkS [59] from rfl, cats_mk (by simp at l1 ⊢; omega), obind_eq, s_ntext_eq t2 g2, obind_eq, cats_mk (by simp at l1 ⊢; omega), obind_eq]
    rw [bsel_true, bsel_true, hs, obind_eq, i_text_eq (by simp) m1, obind_eq, show lit_b7340269 = mkS [59] from rfl, cats_mk (by simp at l1 ⊢; omega), obind_eq, i_ntext_eq t2 g2, obind_eq, cats_mk (by simp at l1 ⊢; omega), obind_eq]
    exact ⟨_, _, rfl, rfl⟩
theorem w_FnExactMatrixText_true (a0 : Int) (a1 : Int) (a2 : List F) (s_a2 : Small a2) (g_a2 : FOks a2) : w_FnExactMatrixText a0 a1 a2 = some true := by
  obtain ⟨l0, e0, h0⟩ := w_szFloat32S_ex a2 1048576 s_a2 (by omega) (by omega)
  rcases Int.lt_or_le l0 0 with c0 | c0
  · simp [w_FnExactMatrixText, w_eqMatrix, w_szMatrix, w_toMatrix, e0, c0]
  have d0 : decide (l0 < 0) = false := by simp; omega
  have t0 := h0 c0
  have t_a2 : a2.length ≤ 1048576 := by omega
  have f1 : w_toFloat32S a2 = some a2 := w_toFloat32S_eq a2 t_a2
  obtain ⟨z0, z1, p1, p2⟩ := MatrixText_eq a0 a1 a2 g_a2 t_a2
  have f2 : eqs z0 z0 = true := eqs_self z0
  have f3 : (!(z1 == z1)) = false := by cases z1 <;> rfl
  have f4 : w_eqFloat32S a2 a2 = some true := w_eqFloat32S_refl a2 t_a2
  simp only [w_FnExactMatrixText, w_eqMatrix, w_szMatrix, w_toMatrix, e0, d0, f1, p1, p2, f2, f3, f4, obind_eq, obind2_eq, obind3_eq, obind4_eq, obind5_eq, obind6_eq, obind7_eq, obind8_eq, bsel_true, bsel_false, need_true, olet_eq, marks_len, marksI_len, decide_true, Bool.not_true, Bool.not_false]

end Go.Proofs.YtddegdokdpeboaaDoor
