/- The plain law of FnExactChainText. -/
import Derived.Test.YtddegdokdpeboaaDoorG0
namespace Go.Proofs.YtddegdokdpeboaaDoor
set_option linter.unusedSimpArgs false
set_option linter.unusedVariables false
open Go Go.AM
def Small {α : Type} (l : List α) : Prop := l.length ≤ 9223372036854775807
theorem sz_one (n : Nat) (a : Int) (hn : n ≤ 9223372036854775807) (h0 : 0 ≤ a) (h1 : a ≤ 1048576) :
    ∃ r, olet (IntKind.i64.wrap (a - (n : Int))) (fun x1 => bsel (decide (x1 < 0)) (some (-1)) (some x1)) = some r ∧ (0 ≤ r → (n : Int) ≤ a ∧ r ≤ a) := by
  rw [wrap_i64 (by omega) (by omega)]
  simp only [olet_eq, bsel_if, decide_eq_true_eq]
  split
  · exact ⟨_, rfl, fun h => by omega⟩
  · exact ⟨_, rfl, fun h => by omega⟩
theorem w_szFloat32S_ex (l : List F) (a : Int) (hn : Small l) (h0 : 0 ≤ a) (h1 : a ≤ 1048576) : ∃ r, w_szFloat32S l a = some r ∧ (0 ≤ r → (l.length : Int) ≤ a ∧ r ≤ a) := sz_one l.length a hn h0 h1
theorem w_toFloat32S_eq (a : List F) (h : a.length ≤ 1048576) : w_toFloat32S a = some a := by
  unfold w_toFloat32S
  have hm : mkok 4 (a.length : Int) = true := by simp [mkok]; omega
  rw [hm, need_true, loop_copy (a := a) (ρ := List F) ?_ ?_ _ (by simp)]
  · rfl
  · intro L v x h0 hv hx hL
    show w_toFloat32S_b1 a L v = _
    unfold w_toFloat32S_b1
    have hs := setAt?_of (l := L) (x := x) h0 (by omega)
    simp [bsel_if, hv, at?_of h0 hx, hs, wrap_succ h0 hv (by omega : a.length ≤ 9223372036854775807)]
  · intro L hL
    show w_toFloat32S_b1 a L (a.length : Int) = _
    unfold w_toFloat32S_b1
    simp [bsel_if]
theorem w_sameFloat_refl (c : F) : w_sameFloat c c = some true := by
  unfold w_sameFloat
  cases h : feq .f64 c c <;> simp [w_sameFloat_k1, h, bsel_if]
theorem w_eqFloat32S_refl (a : List F) (h : a.length ≤ 1048576) : w_eqFloat32S a a = some true := by
  unfold w_eqFloat32S
  rw [loop_eq (l := a) (m := a) rfl ?_ ?_]
  · simp [bsel_if, w_eqFloat32S_k1]
  · intro v x y h0 hv hx hy
    rw [hx] at hy; cases hy
    show w_eqFloat32S_b1 a a v = _
    unfold w_eqFloat32S_b1
    rw [at?_of h0 hx, wrap_succ h0 hv (by omega)]
    simp [bsel_if, hv, w_sameFloat_refl]
  · show w_eqFloat32S_b1 a a (a.length : Int) = _
    unfold w_eqFloat32S_b1
    simp [bsel_if]
def FOks (l : List F) : Prop := ∀ c ∈ l, FOk .f32 c
theorem FOks.at {l : List F} (h : FOks l) {i : Nat} {c : F} (e : l[i]? = some c) : FOk .f32 c := h c (List.mem_of_getElem? e)
theorem i_inRange_eq (n lo hi : Int) : i_inRange n lo hi = some (decide (lo ≤ n) && decide (n ≤ hi)) := by
  unfold i_inRange; cases decide (lo ≤ n) <;> rfl
theorem s_l01Finite_eq {c : F} (h : FOk .f32 c) : s_l01Finite c = some (fin32 c) := by
  unfold s_l01Finite; rw [olet_eq, sub_self h]
theorem s_l02Finite_eq {a : List F} (ha : FOks a) (sa : a.length ≤ 1048576) : s_l02Finite a = some (a.all fin32) := by
  unfold s_l02Finite
  rw [loop_all (l := a) (p := fin32) false ?_ ?_]
  · cases h : a.all fin32 <;> simp [s_l02Finite_k1]
  · intro v x h0 hv hx
    show s_l02Finite_b1 a v = _
    unfold s_l02Finite_b1
    rw [at?_of h0 hx, wrap_succ h0 hv (by omega)]
    simp [bsel_if, hv, s_l01Finite_eq (ha.at hx)]
  · show s_l02Finite_b1 a (a.length : Int) = _
    unfold s_l02Finite_b1
    simp [bsel_if]
theorem i_IsFinite_eq {c : F} (h : FOk .f32 c) : i_IsFinite c = some (fin32 c) := by
  unfold i_IsFinite i_isFinite64 x_math_IsNaN x_math_IsInf x_math_Abs x_math_IsInf_k1
  cases c with
  | none => simp [fwiden, fin32]
  | some b =>
    have hw := feq_refl (k := .f64) (b := FloatKind.f64.encode (FloatKind.f32.decode b)) (fwiden_ok h)
    have hw' : feq .f64 (fwiden (some b)) (fwiden (some b)) = true := hw
    have hm := fabs_max h (by simp)
    simp only [olet_eq, obind_eq, hw', Bool.not_true, bsel_false, decide_true, bsel_true, hm, Bool.not_not]
theorem i_areFinite_1_eq {c : F} (h : FOk .f32 c) : i_areFinite_1 c = some (!fin32 c) := by
  unfold i_areFinite_1; rw [i_IsFinite_eq h]; rfl
theorem any_not {α : Type} (l : List α) (p : α → Bool) : l.any (fun x => !p x) = !l.all p := by
  induction l with
  | nil => rfl
  | cons a l ih => simp [ih]
theorem i_areFinite_eq {a : List F} (ha : FOks a) (sa : a.length ≤ 1048576) : i_areFinite a = some (a.all fin32) := by
  unfold i_areFinite x_slices_ContainsFunc_float32_float32_1Fi_areFinite_1 x_slices_IndexFunc_float32_float32_1Fi_areFinite_1
  obtain ⟨r, h1, h2⟩ := loop_find (l := a) (p := fun c => !fin32 c) (step := x_slices_IndexFunc_float32_float32_1Fi_areFinite_1_s1 a) (by
    intro v x h0 hv hx
    show x_slices_IndexFunc_float32_float32_1Fi_areFinite_1_b1 a v = _
    unfold x_slices_IndexFunc_float32_float32_1Fi_areFinite_1_b1
    rw [at?_of h0 hx, wrap_succ h0 hv (by omega)]
    simp [bsel_if, hv, i_areFinite_1_eq (ha.at hx)]) (by
    show x_slices_IndexFunc_float32_float32_1Fi_areFinite_1_b1 a (a.length : Int) = _
    unfold x_slices_IndexFunc_float32_float32_1Fi_areFinite_1_b1
    simp [bsel_if])
  rw [h1, any_not]
  cases h : a.all fin32 <;> simp [x_slices_IndexFunc_float32_float32_1Fi_areFinite_1_k1, h2]
def marks (k : Int) (n : Nat) : List F := (List.range n).map fun (i : Nat) => fint .f32 (k + (i : Int))
def marksI (k : Int) (n : Nat) : List Int := (List.range n).map fun (i : Nat) => k + (i : Int)
theorem marks_len (k : Int) (n : Nat) : (marks k n).length = n := by simp [marks]
theorem marksI_len (k : Int) (n : Nat) : (marksI k n).length = n := by simp [marksI]
abbrev q1 : List F := [some 1073741824, some 1065353216, some 1065353216, some 1073741824]
theorem FOks.getD {l : List F} (h : FOks l) (n : Nat) : FOk .f32 (l.getD n none) := by
  simp only [List.getD]
  cases e : l[n]? with
  | none => exact fok_none _
  | some c => exact h.at e
theorem FOks.set {l : List F} (h : FOks l) {n : Nat} {x : F} (hx : FOk .f32 x) : FOks (l.set n x) := by
  intro c hc
  rcases List.mem_or_eq_of_mem_set hc with h1 | h1
  · exact h c h1
  · exact h1 ▸ hx
abbrev gI (l : List Int) (i : Nat) : Int := l.getD i 0
structure SpIn (S : Nat) (a1 a2 : List Int) : Prop where
  S1 : 1 ≤ S
  S2 : S ≤ 32
  l1 : a1.length = S + 1
  l2 : a2.length ≤ 512
  z : gI a1 0 = 0
  e : gI a1 S = (a2.length : Int)
structure SpGood (S : Nat) (a1 a2 : List Int) : Prop where
  s : ∀ i, i < S → gI a1 i ≤ gI a1 (i + 1)
  c : ∀ k, k < a2.length → 0 ≤ gI a2 k ∧ gI a2 k ≤ (S : Int) - 1
  o : ∀ i, i < S → ∀ k : Nat, gI a1 i < (k : Int) → (k : Int) < gI a1 (i + 1) → gI a2 (k - 1) < gI a2 k
theorem SpGood.mono {S : Nat} {a1 a2 : List Int} (h : SpGood S a1 a2) : ∀ (d i : Nat), i + d ≤ S → gI a1 i ≤ gI a1 (i + d)
  | 0, i, _ => Int.le_refl _
  | d + 1, i, hd => Int.le_trans (h.mono d i (by omega)) (h.s (i + d) (by omega))
theorem SpGood.lo {S : Nat} {a1 a2 : List Int} (h : SpGood S a1 a2) (i0 : SpIn S a1 a2) {i : Nat} (hi : i ≤ S) : 0 ≤ gI a1 i ∧ gI a1 i ≤ (a2.length : Int) := by
  have h1 := h.mono i 0 (by omega)
  have h2 := h.mono (S - i) i (by omega)
  rw [Nat.zero_add, i0.z] at h1
  rw [show i + (S - i) = S by omega, i0.e] at h2
  exact ⟨h1, h2⟩
structure SpOk (S : Nat) (a1 a2 : List Int) (a3 : List F) : Prop where
  i : SpIn S a1 a2
  g : SpGood S a1 a2
  l : a3.length = a2.length
theorem SpOk.row {S : Nat} {a1 a2 : List Int} {a3 : List F} (h : SpOk S a1 a2 a3) {i : Nat} (hi : i < S) : 0 ≤ gI a1 i ∧ gI a1 i ≤ gI a1 (i + 1) ∧ gI a1 (i + 1) ≤ (a2.length : Int) :=
  ⟨(h.g.lo h.i (by omega)).1, h.g.s i hi, (h.g.lo h.i (i := i + 1) (by omega)).2⟩
def loK (a1 : List Int) (i : Nat) : Nat := (gI a1 i).toNat
def laK (a1 : List Int) (i : Nat) : Nat := (gI a1 (i + 1)).toNat - 1
structure Root (S : Nat) (a1 a2 : List Int) (a3 : List F) : Prop where
  ok : SpOk S a1 a2 a3
  low : ∀ i, i < S → gI a1 i ≤ gI a1 (i + 1) - 1 ∧ gI a2 (laK a1 i) = (i : Int)
theorem Root.at {S : Nat} {a1 a2 : List Int} {a3 : List F} (h : Root S a1 a2 a3) {i : Nat} (hi : i < S) : loK a1 i ≤ laK a1 i ∧ laK a1 i < a2.length ∧ ((laK a1 i : Nat) : Int) = gI a1 (i + 1) - 1 ∧ ((loK a1 i : Nat) : Int) = gI a1 i := by
  obtain ⟨r1, r2, r3⟩ := h.ok.row hi
  obtain ⟨q1, _⟩ := h.low i hi
  unfold loK laK
  omega
def vget (v : List F) (x : Int) : F := v.getD x.toNat none
def Names (n : Nat) (L : List Int) : Prop := ∀ x ∈ L, 0 ≤ x ∧ x < (n : Int)
theorem Names.at {n : Nat} {L : List Int} (h : Names n L) {j : Nat} (hj : j < L.length) : 0 ≤ L.getD j 0 ∧ L.getD j 0 < (n : Int) := by
  rw [List.getD_eq_getElem?_getD, List.getElem?_eq_getElem hj]
  exact h _ (List.getElem_mem hj)
theorem Names.set {n : Nat} {L : List Int} (h : Names n L) {j : Nat} {x : Int} (hx : 0 ≤ x ∧ x < (n : Int)) : Names n (L.set j x) := fun y hy => (List.mem_or_eq_of_mem_set hy).elim (fun k => h y k) (fun k => by rw [k]; exact hx)
theorem vget_mem {v : List F} {x : Int} (h0 : 0 ≤ x) (h1 : x < (v.length : Int)) : vget v x ∈ v := by
  unfold vget
  rw [List.getD_eq_getElem?_getD, List.getElem?_eq_getElem (by omega)]
  exact List.getElem_mem _
def wkey (c : F) : Nat := c.getD 0
def sqW (v : List F) (x : Int) : Nat := wkey (vget v x)
def SqOk (v : List F) : Prop := ∀ c ∈ v, ∃ b, c = some b ∧ b ≤ 2139095040
theorem SqOk.at {v : List F} (h : SqOk v) {x : Int} (h0 : 0 ≤ x) (h1 : x < (v.length : Int)) : vget v x = some (sqW v x) ∧ sqW v x ≤ 2139095040 := by
  obtain ⟨b, e, hb⟩ := h _ (vget_mem h0 h1)
  unfold sqW
  rw [e]; exact ⟨rfl, hb⟩
def mkS (l : List UInt8) : ByteArray := ⟨l.toArray⟩
def byt (s : ByteArray) : List UInt8 := s.data.toList
theorem byt_mk (l : List UInt8) : byt (mkS l) = l := by simp [byt, mkS]
theorem mk_byt (s : ByteArray) : mkS (byt s) = s := Go.Lib.mk_data s
theorem siz (s : ByteArray) : s.size = (byt s).length := Go.Lib.size_eq s
theorem eqs_iff {s t : ByteArray} : eqs s t = decide (byt s = byt t) := by
  unfold eqs byt
  rw [Bool.eq_iff_iff]; simp only [beq_iff_eq, decide_eq_true_eq]
theorem wi64 {n : Int} (h0 : -9000000000000000000 ≤ n) (h1 : n ≤ 9000000000000000000) : IntKind.i64.wrap n = n := wrap_i64 (by omega) (by omega)
theorem cats_mk {a b : List UInt8} (h : a.length + b.length ≤ 1000000000) : cats? (mkS a) (mkS b) = some (mkS (a ++ b)) := by
  unfold cats?
  rw [if_pos (by rw [siz, siz, byt_mk, byt_mk]; omega)]
  refine congrArg some ?_
  rw [← mk_byt (mkS a ++ mkS b)]
  refine congrArg mkS ?_
  show (mkS a ++ mkS b).data.toList = _
  simp [mkS]
theorem eqs_self (s : ByteArray) : eqs s s = true := by rw [eqs_iff]; simp
theorem drop_at {α : Type} {l : List α} {j : Nat} {x : α} (h : l[j]? = some x) : l.drop j = x :: l.drop (j + 1) := by
  have hj := lt_of_getElem? h
  rw [List.drop_eq_getElem_cons hj]
  rw [List.getElem?_eq_getElem hj] at h
  rw [Option.some.inj h]
def hexD (d : Nat) : Int := if d < 10 then 48 + (d : Int) else 87 + (d : Int)
theorem hex_sat {d : Nat} (h : d < 16) : sat? lit_2dfa74a3 (d : Int) = some (hexD d) := by
  match d, h with
  | 0, _ => rfl
  | 1, _ => rfl
  | 2, _ => rfl
  | 3, _ => rfl
  | 4, _ => rfl
  | 5, _ => rfl
  | 6, _ => rfl
  | 7, _ => rfl
  | 8, _ => rfl
  | 9, _ => rfl
  | 10, _ => rfl
  | 11, _ => rfl
  | 12, _ => rfl
  | 13, _ => rfl
  | 14, _ => rfl
  | 15, _ => rfl
  | d + 16, h => exact absurd h (by omega)
theorem hex_sat2 {d : Nat} (h : d < 16) : sat? lit_b1892504 (d : Int) = some (hexD d) := by
  match d, h with
  | 0, _ => rfl
  | 1, _ => rfl
  | 2, _ => rfl
  | 3, _ => rfl
  | 4, _ => rfl
  | 5, _ => rfl
  | 6, _ => rfl
  | 7, _ => rfl
  | 8, _ => rfl
  | 9, _ => rfl
  | 10, _ => rfl
  | 11, _ => rfl
  | 12, _ => rfl
  | 13, _ => rfl
  | 14, _ => rfl
  | 15, _ => rfl
  | d + 16, h => exact absurd h (by omega)
theorem and15 {x : Nat} (h : x < 18446744073709551616) : (BitVec.ofInt 64 (x : Int) &&& BitVec.ofInt 64 15).toNat = x % 16 := by
  have e1 : (BitVec.ofInt 64 (x : Int)).toNat = x := by
    rw [BitVec.ofInt_natCast, BitVec.toNat_ofNat]
    exact Nat.mod_eq_of_lt h
  have e2 : (BitVec.ofInt 64 15).toNat = 15 := by decide
  rw [BitVec.toNat_and, e1, e2]
  exact Nat.and_two_pow_sub_one_eq_mod x 4
theorem iand_i {x : Nat} (h : x < 9000000000000000000) : iand .i64 (x : Int) 15 = ((x % 16 : Nat) : Int) := by
  unfold iand
  show IntKind.i64.wrap (((BitVec.ofInt 64 (x : Int) &&& BitVec.ofInt 64 15).toNat : Nat) : Int) = _
  rw [and15 (by omega), wi64 (by omega) (by omega)]
theorem u64_wrap {n : Int} (h0 : 0 ≤ n) (h1 : n < 18446744073709551616) : IntKind.u64.wrap n = n := by
  simp only [IntKind.wrap, IntKind.bits, IntKind.signed]
  simp
  omega
theorem iand_u {x : Nat} (h : x < 9000000000000000000) : iand .u64 (x : Int) 15 = ((x % 16 : Nat) : Int) := by
  unfold iand
  show IntKind.u64.wrap (((BitVec.ofInt 64 (x : Int) &&& BitVec.ofInt 64 15).toNat : Nat) : Int) = _
  rw [and15 (by omega), u64_wrap (by omega) (by omega)]
theorem ishr_nat {k : IntKind} {x j : Nat} (h : j ≤ k.bits) : ishr k (x : Int) (j : Int) = ((x / 2 ^ j : Nat) : Int) := by
  unfold ishr
  rw [show ((j : Nat) : Int).toNat = j from by omega, Nat.min_eq_left h, Int.fdiv_eq_ediv_of_nonneg _ (by exact Int.le_of_lt (Int.pow_pos (by decide)))]
  push_cast
  rfl
def hxR : Nat → Nat → List Int
  | 0, n => [hexD (n % 16)]
  | k + 1, n => hexD (n / 16 ^ (k + 1) % 16) :: hxR k n
theorem hxR_snoc : ∀ (k n : Nat), hxR (k + 1) n = hxR k (n / 16) ++ [hexD (n % 16)]
  | 0, n => by simp [hxR]
  | k + 1, n => by
    have ih := hxR_snoc k n
    show hexD (n / 16 ^ (k + 2) % 16) :: hxR (k + 1) n = (hexD (n / 16 / 16 ^ (k + 1) % 16) :: hxR k (n / 16)) ++ [hexD (n % 16)]
    rw [ih, Nat.div_div_eq_div_mul, show 16 * 16 ^ (k + 1) = 16 ^ (k + 2) from by rw [Nat.pow_succ 16 (k + 1), Nat.mul_comm]]
    rfl
theorem hxR_len : ∀ (k n : Nat), (hxR k n).length = k + 1
  | 0, n => rfl
  | k + 1, n => by simp [hxR, hxR_len k n]
theorem hex_loop {n : Nat} (hn : n < 4294967296) : ∀ (k : Nat) (L : List Int), k ≤ 7 → L.length + k ≤ 100 → loopM (s_l01Hex_s1 (n : Int)) (L, ((4 * k : Nat) : Int)) = some (.inl (L ++ hxR k n))
  | k, L, hk, hL => by
    have hsh : ishr .i64 (n : Int) ((4 * k : Nat) : Int) = ((n / 16 ^ k : Nat) : Int) := by
      rw [ishr_nat (by show 4 * k ≤ 64; omega), show (2 : Nat) ^ (4 * k) = 16 ^ k from by rw [Nat.pow_mul]]
    have hle : n / 16 ^ k ≤ n := Nat.div_le_self _ _
    have e : s_l01Hex_s1 (n : Int) (L, ((4 * k : Nat) : Int)) = some (.next (L ++ [hexD (n / 16 ^ k % 16)], ((4 * k : Nat) : Int) - 4)) := by
      show s_l01Hex_b1 (n : Int) L ((4 * k : Nat) : Int) = _
      unfold s_l01Hex_b1
      rw [decide_eq_true (by omega), bsel_true]
      simp only [olet_eq]
      rw [u64_wrap (by omega) (by omega), decide_eq_true (by omega), need_true, hsh, iand_i (by omega), hex_sat (Nat.mod_lt _ (by decide)), obind_eq, show apok 1 L.length 1 = true from by simp only [apok, Bool.and_eq_true, decide_eq_true_eq]; omega, need_true, wi64 (by omega) (by omega)]
    rw [loopM_next e]
    cases k with
    | zero =>
      rw [loopM_out (e := L ++ [hexD (n / 16 ^ 0 % 16)])]
      · simp [hxR]
      · show s_l01Hex_b1 (n : Int) _ (((4 * 0 : Nat) : Int) - 4) = _
        unfold s_l01Hex_b1
        rw [decide_eq_false (by omega), bsel_false]
    | succ k =>
      rw [show ((4 * (k + 1) : Nat) : Int) - 4 = ((4 * k : Nat) : Int) from by omega, hex_loop hn k _ (by omega) (by simp at hL ⊢; omega)]
      simp [hxR]
def hxs (n : Nat) : List Int := if n < 16 then [hexD n] else hxs (n / 16) ++ [hexD (n % 16)]
theorem set_drop {α : Type} {L : List α} {j : Nat} {d : α} (h : j < L.length) : (L.set j d).drop j = d :: L.drop (j + 1) := by
  rw [List.drop_eq_getElem_cons (by simpa using h), List.drop_set_of_lt (by omega)]
  simp
theorem fmt_loop : ∀ (k v i : Nat) (L : List Int), v < 16 ^ (k + 1) → v < 9000000000000000000 → k + 1 ≤ i → i ≤ 65 → L.length = 65 →
    ∃ e, loopM (x_internal_strconv_formatBits_s2 4 16 15) (L, (v : Int), (i : Int)) = some (.inl e) ∧ x_internal_strconv_formatBits_k2 false false e.1 e.2.1 e.2.2 = some (strOfNums (hxs v ++ L.drop i), []) := by
  intro k
  induction k with
  | zero =>
    intro v i L hv hv9 hki hi hL
    have hv16 : v < 16 := by simpa using hv
    refine ⟨(L, (v : Int), (i : Int)), loopM_out ?_, ?_⟩
    · show x_internal_strconv_formatBits_b2 4 16 15 L (v : Int) (i : Int) = _
      unfold x_internal_strconv_formatBits_b2
      rw [decide_eq_false (by omega), bsel_false]
    · show x_internal_strconv_formatBits_k2 false false L (v : Int) (i : Int) = _
      unfold x_internal_strconv_formatBits_k2 x_internal_strconv_formatBits_k4 x_internal_strconv_formatBits_k5
      simp only [olet_eq]
      rw [wi64 (by omega) (by omega), hex_sat2 hv16, obind_eq, setAt?_of (by omega) (by omega), obind_eq, bsel_false, bsel_false, show (decide (0 ≤ (i : Int) - 1) && decide ((i : Int) - 1 < ((65 : Nat) : Int))) = true from by simp; omega, need_true]
      rw [show ((i : Int) - 1).toNat = i - 1 from by omega, set_drop (by omega), show i - 1 + 1 = i from by omega]
      unfold hxs
      rw [if_pos hv16]; rfl
  | succ k ih =>
    intro v i L hv hv9 hki hi hL
    by_cases hv16 : v < 16
    · refine ⟨(L, (v : Int), (i : Int)), loopM_out ?_, ?_⟩
      · show x_internal_strconv_formatBits_b2 4 16 15 L (v : Int) (i : Int) = _
        unfold x_internal_strconv_formatBits_b2
        rw [decide_eq_false (by omega), bsel_false]
      · show x_internal_strconv_formatBits_k2 false false L (v : Int) (i : Int) = _
        unfold x_internal_strconv_formatBits_k2 x_internal_strconv_formatBits_k4 x_internal_strconv_formatBits_k5
        simp only [olet_eq]
        rw [wi64 (by omega) (by omega), hex_sat2 hv16, obind_eq, setAt?_of (by omega) (by omega), obind_eq, bsel_false, bsel_false, show (decide (0 ≤ (i : Int) - 1) && decide ((i : Int) - 1 < ((65 : Nat) : Int))) = true from by simp; omega, need_true]
        rw [show ((i : Int) - 1).toNat = i - 1 from by omega, set_drop (by omega), show i - 1 + 1 = i from by omega]
        unfold hxs
        rw [if_pos hv16]; rfl
    · obtain ⟨e, h1, h2⟩ := ih (v / 16) (i - 1) (L.set (i - 1) (hexD (v % 16))) (by rw [Nat.pow_succ] at hv; omega) (by omega) (by omega) (by omega) (by simpa using hL)
      have st : x_internal_strconv_formatBits_s2 4 16 15 (L, (v : Int), (i : Int)) = some (.next (L.set (i - 1) (hexD (v % 16)), ((v / 16 : Nat) : Int), ((i - 1 : Nat) : Int))) := by
        show x_internal_strconv_formatBits_b2 4 16 15 L (v : Int) (i : Int) = _
        unfold x_internal_strconv_formatBits_b2
        have hs : ishr .u64 (v : Int) 4 = ((v / 16 : Nat) : Int) := ishr_nat (k := .u64) (j := 4) (by decide)
        rw [decide_eq_true (by omega), bsel_true]
        simp only [olet_eq]
        rw [wi64 (by omega) (by omega), iand_u (by omega), hex_sat2 (Nat.mod_lt _ (by decide)), obind_eq, setAt?_of (by omega) (by omega), obind_eq, hs, show decide ((0 : Int) ≤ 4) = true from rfl, need_true]
        rw [show ((i : Int) - 1).toNat = i - 1 from by omega, show ((i : Int) - 1) = ((i - 1 : Nat) : Int) from by omega]
      refine ⟨e, by rw [loopM_next st]; exact h1, ?_⟩
      rw [h2, set_drop (by omega), show i - 1 + 1 = i from by omega]
      conv => rhs; unfold hxs
      rw [if_neg hv16]; simp
theorem pow2_16 : x_internal_strconv_isPowerOfTwo 16 = some true := by kernel_rfl
theorem tz_16 : x_math_bits_TrailingZeros 16 = some 4 := by kernel_rfl
theorem fmt16_eq {n : Nat} (hn : n < 4294967296) : x_strconv_FormatInt_16 (n : Int) 16 = some (strOfNums (hxs n)) := by
  obtain ⟨e, h1, h2⟩ := fmt_loop 7 n 65 (List.replicate 65 (0 : Int)) (by have : (16 : Nat) ^ (7 + 1) = 4294967296 := by decide
                                                                          omega) (by omega) (by omega) (by omega) List.length_replicate
  have hd : (List.replicate 65 (0 : Int)).drop 65 = [] := rfl
  rw [hd, List.append_nil] at h2
  have h1 : loopM (x_internal_strconv_formatBits_s2 4 16 15) (List.replicate 65 (0 : Int), (n : Int), 65) = some (.inl e) := h1
  have k1 : x_internal_strconv_formatBits_k1 16 false false (n : Int) = some (strOfNums (hxs n), []) := by
    unfold x_internal_strconv_formatBits_k1
    rw [pow2_16, obind_eq, bsel_true]
    simp only [olet_eq]
    rw [u64_wrap (n := 16) (by omega) (by omega), tz_16, obind_eq, u64_wrap (n := 4) (by omega) (by omega), u64_wrap (n := 16 - 1) (by omega) (by omega), show (16 : Int) - 1 = 15 from rfl, h1]
    exact h2
  unfold x_strconv_FormatInt_16 x_internal_strconv_FormatInt x_internal_strconv_formatBits
  rw [show decide ((16 : Int) = 10) = false from rfl, bsel_false]
  simp only [olet_eq]
  rw [u64_wrap (n := (n : Int)) (by omega) (by omega), show decide ((16 : Int) < 2) = false from rfl, bsel_false, bsel_false, show decide ((36 : Int) < 16) = false from rfl, bsel_false, decide_eq_false (by omega), bsel_false, k1]; rfl
theorem hxR_zero : ∀ k : Nat, hxR k 0 = List.replicate (k + 1) 48
  | 0 => rfl
  | k + 1 => by
    show hexD (0 / 16 ^ (k + 1) % 16) :: hxR k 0 = _
    rw [hxR_zero k, Nat.zero_div]; rfl
theorem hxs_len : ∀ (k n : Nat), n < 16 ^ (k + 1) → 1 ≤ (hxs n).length ∧ (hxs n).length ≤ k + 1
  | 0, n, h => by
    unfold hxs
    rw [if_pos (by simpa using h)]; simp
  | k + 1, n, h => by
    unfold hxs
    by_cases hs : n < 16
    · rw [if_pos hs]; simp
    · rw [if_neg hs]
      have := hxs_len k (n / 16) (by rw [Nat.pow_succ] at h; omega)
      simp; omega
theorem pad_eq : ∀ (k n : Nat), n < 16 ^ (k + 1) → List.replicate (k + 1 - (hxs n).length) 48 ++ hxs n = hxR k n
  | 0, n, h => by
    have h16 : n < 16 := by simpa using h
    unfold hxs
    rw [if_pos h16]
    simp [hxR, Nat.mod_eq_of_lt h16]
  | k + 1, n, h => by
    by_cases hs : n < 16
    · rw [hxR_snoc, show n / 16 = 0 from by omega, hxR_zero, Nat.mod_eq_of_lt hs]
      unfold hxs
      rw [if_pos hs]; simp
    · have ih := pad_eq k (n / 16) (by rw [Nat.pow_succ] at h; omega)
      rw [hxR_snoc, ← ih]
      have e : hxs n = hxs (n / 16) ++ [hexD (n % 16)] := by
        conv => lhs; unfold hxs
        rw [if_neg hs]
      rw [e]
      simp
def bitsN (x : F) : Nat := match x with
  | none => 2143289344
  | some b => b
def hexB (x : F) : List UInt8 := (hxR 7 (bitsN x)).map fun n => UInt8.ofNat n.toNat
theorem hexB_len (x : F) : (hexB x).length = 8 := by unfold hexB; rw [List.length_map, hxR_len]
theorem bits_eq {x : F} (h : FOk .f32 x) : s_l01Bits x = some ((bitsN x : Nat) : Int) ∧ i_BitsOf x = some ((bitsN x : Nat) : Int) ∧ bitsN x < 4294967296 := by
  have e : i_BitsOf x = s_l01Bits x := rfl
  rw [e]
  cases x with
  | none => exact ⟨rfl, rfl, by decide⟩
  | some b =>
    obtain ⟨b', hb, hw, hnan⟩ := h
    subst hb
    have hlt : b' < 4294967296 := hw
    have hf : feq .f32 (some b') (some b') = true := feq_refl ⟨b', rfl, hw, hnan⟩
    have k : s_l01Bits (some b') = some (b' : Int) := by
      unfold s_l01Bits
      rw [hf, Bool.not_true, bsel_false, obind_eq]
      simp only [olet_eq]
      rw [wi64 (by omega) (by omega)]
    exact ⟨k, k, hlt⟩
theorem s_hex_eq {x : F} (h : FOk .f32 x) : s_l01Hex x = some (mkS (hexB x)) := by
  obtain ⟨h1, _, h3⟩ := bits_eq h
  have e : loopM (s_l01Hex_s1 ((bitsN x : Nat) : Int)) ([], 28) = _ := hex_loop h3 7 [] (by omega) (by simp)
  unfold s_l01Hex
  rw [h1, obind_eq, e]; rfl
theorem rep48 : ∀ k : Nat, Go.Lib.repeatL [48] k = List.replicate k 48
  | 0 => rfl
  | k + 1 => by
    show [48] ++ Go.Lib.repeatL [48] k = _
    rw [rep48 k]; rfl
theorem i_hex_eq {x : F} (h : FOk .f32 x) : i_digitsOf x = some (mkS (hexB x)) := by
  obtain ⟨_, h2, h3⟩ := bits_eq h
  have h8 : bitsN x < 16 ^ (7 + 1) := by have : (16 : Nat) ^ (7 + 1) = 4294967296 := by decide
                                         omega
  obtain ⟨l1, l2⟩ := hxs_len 7 (bitsN x) h8
  have hsz : ((strOfNums (hxs (bitsN x))).size : Int) = ((hxs (bitsN x)).length : Int) := by rw [strOfNums_size]
  unfold i_digitsOf
  rw [h2, obind_eq, fmt16_eq h3, obind_eq]
  simp only [olet_eq]
  rw [hsz, wi64 (by omega) (by omega)]
  have hr : x_strings_Repeat lit_53dfb3bc (8 - ((hxs (bitsN x)).length : Int)) = some (mkS (List.replicate (8 - (hxs (bitsN x)).length) 48)) := by
    unfold x_strings_Repeat
    rw [decide_eq_true (by omega), need_true, decide_eq_true (by omega), need_true, show lit_53dfb3bc.size = 1 from rfl, decide_eq_true (by omega), need_true, show (8 - ((hxs (bitsN x)).length : Int)).toNat = 8 - (hxs (bitsN x)).length from by omega, show lit_53dfb3bc.data.toList = [48] from rfl, rep48]; rfl
  rw [hr, obind_eq, show strOfNums (hxs (bitsN x)) = mkS ((hxs (bitsN x)).map fun n => UInt8.ofNat n.toNat) from rfl, cats_mk (by simp; omega), obind_eq]
  unfold hexB
  rw [← pad_eq 7 (bitsN x) h8, List.map_append, List.map_replicate]; rfl
def txtF (l : List F) : List UInt8 := if l = [] then [110, 111, 110, 101] else Go.Lib.join (l.map hexB) [44]
theorem tailF_len : ∀ (l : List F), (Go.Lib.joinTail [44] (l.map hexB)).length ≤ 9 * l.length
  | [] => by simp [Go.Lib.joinTail]
  | x :: l => by
    have ih := tailF_len l
    have hx := hexB_len x
    simp only [Go.Lib.joinTail, List.map_cons, List.flatten_cons, List.length_append, List.length_cons, List.length_nil] at ih ⊢
    omega
theorem tailF_cons (x : F) (l : List F) : Go.Lib.joinTail [44] ((x :: l).map hexB) = [44] ++ hexB x ++ Go.Lib.joinTail [44] (l.map hexB) := by
  simp [Go.Lib.joinTail]
theorem textF_loop {l : List F} (hl : l.length ≤ 1048576) (hb : FOks l) : ∀ (k j : Nat) (p : List UInt8), j + k = l.length → p.length + 30 * k ≤ 900000000 → loopM (s_l01NText_s1 l) (mkS p, (j : Int)) = some (.inl (mkS (p ++ Go.Lib.joinTail [44] ((l.drop j).map hexB))))
  | 0, j, p, hj, hp => by
    have hd : l.drop j = [] := List.drop_eq_nil_of_le (by omega)
    rw [hd, loopM_out (e := mkS p)]
    · simp [Go.Lib.joinTail]
    · show s_l01NText_b1 l (mkS p) (j : Int) = _
      unfold s_l01NText_b1
      rw [decide_eq_false (by omega), bsel_false]
  | k + 1, j, p, hj, hp => by
    obtain ⟨x, hx⟩ : ∃ x, l[j]? = some x := ⟨_, List.getElem?_eq_getElem (by omega)⟩
    have hil := hexB_len x
    have e : s_l01NText_s1 l (mkS p, (j : Int)) = some (.next (mkS (p ++ ([44] ++ hexB x)), ((j + 1 : Nat) : Int))) := by
      show s_l01NText_b1 l (mkS p) (j : Int) = _
      unfold s_l01NText_b1
      rw [decide_eq_true (by omega), bsel_true, at?_of (by omega) (by rw [show (j : Int).toNat = j from by omega]; exact hx), obind_eq, s_hex_eq (hb x (List.mem_of_getElem? hx)), obind_eq, show lit_be717853 = mkS [44] from rfl, cats_mk (by simp; omega), obind_eq, cats_mk (by simp; omega), obind_eq]
      simp only [olet_eq]
      rw [wi64 (by omega) (by omega)]; rfl
    rw [loopM_next e, textF_loop hl hb k (j + 1) _ (by omega) (by simp; omega), drop_at hx, tailF_cons]
    simp
theorem s_ntext_eq {l : List F} (hl : l.length ≤ 1048576) (hb : FOks l) : s_l01NText l = some (mkS (txtF l)) := by
  unfold s_l01NText
  cases l with
  | nil => rfl
  | cons x r =>
    have hil := hexB_len x
    simp only [List.length_cons] at hl
    rw [decide_eq_false (by simp; omega), bsel_false, show at? (x :: r) 0 = some x from rfl, obind_eq, s_hex_eq (hb x (by simp)), obind_eq]
    have e : loopM (s_l01NText_s1 (x :: r)) (mkS (hexB x), 1) = _ := textF_loop (l := x :: r) (by simp; omega) hb r.length 1 (hexB x) (by simp; omega) (by omega)
    rw [e]
    unfold txtF
    rw [if_neg (by simp), List.map_cons, Go.Lib.join_cons]; rfl
theorem listF_loop {l : List F} (hl : l.length ≤ 1048576) (hb : FOks l) : ∀ (k j : Nat) (L : List ByteArray), j + k = l.length → L.length ≤ j → loopM (i_numbersText_s1 l) (L, (j : Int)) = some (.inl (L ++ (l.drop j).map fun x => mkS (hexB x)))
  | 0, j, L, hj, hL => by
    have hd : l.drop j = [] := List.drop_eq_nil_of_le (by omega)
    rw [hd, loopM_out (e := L)]
    · simp
    · show i_numbersText_b1 l L (j : Int) = _
      unfold i_numbersText_b1
      rw [decide_eq_false (by omega), bsel_false]
  | k + 1, j, L, hj, hL => by
    obtain ⟨x, hx⟩ : ∃ x, l[j]? = some x := ⟨_, List.getElem?_eq_getElem (by omega)⟩
    have e : i_numbersText_s1 l (L, (j : Int)) = some (.next (L ++ [mkS (hexB x)], ((j + 1 : Nat) : Int))) := by
      show i_numbersText_b1 l L (j : Int) = _
      unfold i_numbersText_b1
      rw [decide_eq_true (by omega), bsel_true, at?_of (by omega) (by rw [show (j : Int).toNat = j from by omega]; exact hx), obind_eq, i_hex_eq (hb x (List.mem_of_getElem? hx)), obind_eq, show apok 16 L.length 1 = true from by simp only [apok, Bool.and_eq_true, decide_eq_true_eq]; omega, need_true]
      simp only [olet_eq]
      rw [wi64 (by omega) (by omega)]; rfl
    rw [loopM_next e, listF_loop hl hb k (j + 1) _ (by omega) (by simp; omega), drop_at hx]
    simp
theorem i_ntext_eq {l : List F} (hl : l.length ≤ 1048576) (hb : FOks l) : i_numbersText l = some (mkS (txtF l)) := by
  have e : loopM (i_numbersText_s1 l) ([], 0) = some (.inl (l.map fun x => mkS (hexB x))) := by
    have := listF_loop hl hb l.length 0 [] (by omega) (by simp)
    simpa using this
  unfold i_numbersText
  rw [e]
  show i_numbersText_k1 (l.map fun x => mkS (hexB x)) = _
  unfold i_numbersText_k1 i_joined
  cases l with
  | nil => rfl
  | cons x r =>
    have hil := hexB_len x
    have htl := tailF_len r
    simp only [List.length_cons] at hl
    have hm : ((x :: r).map fun x => mkS (hexB x)).map (fun s => s.data.toList) = (x :: r).map hexB := by
      rw [List.map_map]
      exact List.map_congr_left fun y _ => byt_mk _
    have hj : Go.Lib.join ((x :: r).map hexB) [44] = hexB x ++ Go.Lib.joinTail [44] (r.map hexB) := by rw [List.map_cons, Go.Lib.join_cons]
    have js : x_strings_Join ((x :: r).map fun x => mkS (hexB x)) lit_be717853 = some (mkS (txtF (x :: r))) := by
      unfold x_strings_Join
      rw [hm, show lit_be717853.data.toList = [44] from rfl]
      rw [decide_eq_true (by simp), need_true, decide_eq_true (by simp; omega), need_true, decide_eq_true (by rw [hj]; simp; omega), need_true]
      unfold txtF
      rw [if_neg (by simp)]; rfl
    rw [decide_eq_false (by simp; omega), bsel_false, js, obind_eq, obind_eq]
theorem txtF_len (l : List F) : (txtF l).length ≤ 9 * l.length + 4 := by
  unfold txtF
  cases l with
  | nil => simp
  | cons x r =>
    have hil := hexB_len x
    have htl := tailF_len r
    rw [if_neg (by simp), List.map_cons, Go.Lib.join_cons]
    simp; omega
theorem chain_valid {a0 a1 : List F} (g0 : FOks a0) (g1 : FOks a1) (t0 : a0.length ≤ 1048576) (t1 : a1.length ≤ 1048576) : ∃ v : Bool, s_l04Is a0 a1 = some v ∧ i_ValidChain a0 a1 = some v := by
  unfold s_l04Is i_ValidChain i_isSide i_length_float32
  rw [s_l02Finite_eq g0 t0, s_l02Finite_eq g1 t1, i_areFinite_eq g0 t0, i_areFinite_eq g1 t1]
  simp only [i_inRange_eq, obind_eq, olet_eq]
  cases decide (1 ≤ (a0.length : Int))
  · exact ⟨false, rfl, rfl⟩
  · cases decide ((a0.length : Int) ≤ 12)
    · exact ⟨false, rfl, rfl⟩
    · cases decide ((a1.length : Int) = IntKind.i64.wrap ((a0.length : Int) - 1))
      · exact ⟨false, rfl, rfl⟩
      · cases a0.all fin32
        · exact ⟨false, rfl, rfl⟩
        · exact ⟨_, rfl, rfl⟩
theorem ChainText_eq (a0 a1 : List F) (g0 : FOks a0) (g1 : FOks a1) (t0 : a0.length ≤ 1048576) (t1 : a1.length ≤ 1048576) : ∃ (z0 : ByteArray) (z1 : Bool), s_ChainText a0 a1 = some (z0, z1) ∧ i_ChainText a0 a1 = some (z0, z1) := by
  obtain ⟨v, e1, e2⟩ := chain_valid g0 g1 t0 t1
  unfold s_ChainText i_ChainText
  rw [e1, e2, obind_eq, obind_eq]
  cases v
  · exact ⟨lit_99ba06bc, false, by rw [bsel_false], by rw [bsel_false]⟩
  · have l1 := txtF_len a0
    have l2 := txtF_len a1
    have hs : s_l08Chain a0 a1 = some (mkS ((txtF a0 ++ [59]) ++ txtF a1)) := by
      unfold s_l08Chain
      rw [s_ntext_eq t0 g0, obind_eq, show lit_b7340269 = mkS [59] from rfl, cats_mk (by simp; omega), obind_eq, s_ntext_eq t1 g1, obind_eq, cats_mk (by simp; omega), obind_eq]
    rw [bsel_true, bsel_true, hs, obind_eq, i_ntext_eq t0 g0, obind_eq, show lit_b7340269 = mkS [59] from rfl, cats_mk (by simp; omega), obind_eq, i_ntext_eq t1 g1, obind_eq, cats_mk (by simp; omega), obind_eq]
    exact ⟨_, _, rfl, rfl⟩
theorem w_FnExactChainText_true (a0 : List F) (a1 : List F) (s_a0 : Small a0) (s_a1 : Small a1) (g_a0 : FOks a0) (g_a1 : FOks a1) : w_FnExactChainText a0 a1 = some true := by
  obtain ⟨l0, e0, h0⟩ := w_szFloat32S_ex a0 1048576 s_a0 (by omega) (by omega)
  rcases Int.lt_or_le l0 0 with c0 | c0
  · simp [w_FnExactChainText, w_eqChain, w_szChain, w_toChain, e0, c0]
  have d0 : decide (l0 < 0) = false := by simp; omega
  have t0 := h0 c0
  have t_a0 : a0.length ≤ 1048576 := by omega
  obtain ⟨l1, e1, h1⟩ := w_szFloat32S_ex a1 l0 s_a1 (by omega) (by omega)
  rcases Int.lt_or_le l1 0 with c1 | c1
  · simp [w_FnExactChainText, w_eqChain, w_szChain, w_toChain, e0, e1, d0, c1]
  have d1 : decide (l1 < 0) = false := by simp; omega
  have t1 := h1 c1
  have t_a1 : a1.length ≤ 1048576 := by omega
  have f1 : w_toFloat32S a0 = some a0 := w_toFloat32S_eq a0 t_a0
  have f2 : w_toFloat32S a1 = some a1 := w_toFloat32S_eq a1 t_a1
  obtain ⟨z0, z1, p1, p2⟩ := ChainText_eq a0 a1 g_a0 g_a1 t_a0 t_a1
  have f3 : eqs z0 z0 = true := eqs_self z0
  have f4 : (!(z1 == z1)) = false := by cases z1 <;> rfl
  have f5 : w_eqFloat32S a0 a0 = some true := w_eqFloat32S_refl a0 t_a0
  have f6 : w_eqFloat32S a1 a1 = some true := w_eqFloat32S_refl a1 t_a1
  simp only [w_FnExactChainText, w_eqChain, w_szChain, w_toChain, e0, d0, e1, d1, f1, f2, p1, p2, f3, f4, f5, f6, obind_eq, obind2_eq, obind3_eq, obind4_eq, obind5_eq, obind6_eq, obind7_eq, obind8_eq, bsel_true, bsel_false, need_true, olet_eq, marks_len, marksI_len, decide_true, Bool.not_true, Bool.not_false]

end Go.Proofs.YtddegdokdpeboaaDoor
