/- The plain law of FnExactWholeText. -/
import Derived.Test.YtddegdokdpeboaaDoorG0
namespace Go.Proofs.YtddegdokdpeboaaDoor
set_option linter.unusedSimpArgs false
set_option linter.unusedVariables false
open Go Go.AM
def Small {α : Type} (l : List α) : Prop := l.length ≤ 9223372036854775807
theorem sz_one (n : Nat) (a : Int) (hn : n ≤ 9223372036854775807) (h0 : 0 ≤ a) (h1 : a ≤ 1048576) :
    ∃ r, olet (IntKind.i64.wrap (a - (n : Int))) (fun x1 => bsel (decide (x1 < 0)) (some (-1)) (some x1)) = some r ∧ (0 ≤ r → (n : Int) ≤ a ∧ r ≤ a) := by
  rw [wrap_i64 (by omega) (by omega)]
  simp only [olet_eq, bsel_if, decide_eq_true_eq]
  split
  · exact ⟨_, rfl, fun h => by omega⟩
  · exact ⟨_, rfl, fun h => by omega⟩
theorem w_szInt64S_ex (l : List Int) (a : Int) (hn : Small l) (h0 : 0 ≤ a) (h1 : a ≤ 1048576) : ∃ r, w_szInt64S l a = some r ∧ (0 ≤ r → (l.length : Int) ≤ a ∧ r ≤ a) := sz_one l.length a hn h0 h1
theorem w_toInt64S_eq (a : List Int) (h : a.length ≤ 1048576) : w_toInt64S a = some a := by
  unfold w_toInt64S
  have hm : mkok 8 (a.length : Int) = true := by simp [mkok]; omega
  rw [hm, need_true, loop_copy (a := a) (ρ := List Int) ?_ ?_ _ (by simp)]
  · rfl
  · intro L v x h0 hv hx hL
    show w_toInt64S_b1 a L v = _
    unfold w_toInt64S_b1
    have hs := setAt?_of (l := L) (x := x) h0 (by omega)
    simp [bsel_if, hv, at?_of h0 hx, hs, wrap_succ h0 hv (by omega : a.length ≤ 9223372036854775807)]
  · intro L hL
    show w_toInt64S_b1 a L (a.length : Int) = _
    unfold w_toInt64S_b1
    simp [bsel_if]
theorem w_eqInt64S_refl (a : List Int) (h : a.length ≤ 1048576) : w_eqInt64S a a = some true := by
  unfold w_eqInt64S
  rw [loop_eq (l := a) (m := a) rfl ?_ ?_]
  · simp [bsel_if, w_eqInt64S_k1]
  · intro v x y h0 hv hx hy
    rw [hx] at hy; cases hy
    show w_eqInt64S_b1 a a v = _
    unfold w_eqInt64S_b1
    rw [at?_of h0 hx, wrap_succ h0 hv (by omega)]
    simp [bsel_if, hv]
  · show w_eqInt64S_b1 a a (a.length : Int) = _
    unfold w_eqInt64S_b1
    simp [bsel_if]
theorem s_l00In_eq (n lo hi : Int) : s_l00In n lo hi = some (decide (lo ≤ n) && decide (n ≤ hi)) := by
  unfold s_l00In; cases decide (lo ≤ n) <;> rfl
theorem i_inRange_eq (n lo hi : Int) : i_inRange n lo hi = some (decide (lo ≤ n) && decide (n ≤ hi)) := by
  unfold i_inRange; cases decide (lo ≤ n) <;> rfl
theorem any_not {α : Type} (l : List α) (p : α → Bool) : l.any (fun x => !p x) = !l.all p := by
  induction l with
  | nil => rfl
  | cons a l ih => simp [ih]
def inR (lo hi n : Int) : Bool := decide (lo ≤ n) && decide (n ≤ hi)
theorem s_l06Bound_eq {a : List Int} (sa : a.length ≤ 1048576) : s_l06Bound a 1000000 = some (a.all (inR (-1000000) 1000000)) := by
  unfold s_l06Bound
  rw [loop_all (l := a) (p := inR (-1000000) 1000000) false ?_ ?_]
  · cases h : a.all (inR (-1000000) 1000000) <;> simp [s_l06Bound_k1]
  · intro v x h0 hv hx
    show s_l06Bound_b1 a 1000000 v = _
    unfold s_l06Bound_b1
    rw [at?_of h0 hx, wrap_succ h0 hv (by omega), wrap_i64 (by omega) (by omega)]
    simp only [obind_eq, olet_eq, s_l00In_eq, hv, decide_true, bsel_if]
    rfl
  · show s_l06Bound_b1 a 1000000 (a.length : Int) = _
    unfold s_l06Bound_b1
    simp [bsel_if]
theorem i_allIn_eq {a : List Int} (sa : a.length ≤ 1048576) (lo hi : Int) : i_allIn a lo hi = some (a.all (inR lo hi)) := by
  unfold i_allIn x_slices_ContainsFunc_int64_int64_1Fi_allIn_1 x_slices_IndexFunc_int64_int64_1Fi_allIn_1
  obtain ⟨r, h1, h2⟩ := loop_find (l := a) (p := fun c => !inR lo hi c) (step := x_slices_IndexFunc_int64_int64_1Fi_allIn_1_s1 a lo hi) (by
    intro v x h0 hv hx
    show x_slices_IndexFunc_int64_int64_1Fi_allIn_1_b1 a lo hi v = _
    unfold x_slices_IndexFunc_int64_int64_1Fi_allIn_1_b1
    rw [at?_of h0 hx, wrap_succ h0 hv (by omega)]
    simp only [obind_eq, olet_eq, i_allIn_1, i_inRange_eq, hv, decide_true, bsel_if]
    rfl) (by
    show x_slices_IndexFunc_int64_int64_1Fi_allIn_1_b1 a lo hi (a.length : Int) = _
    unfold x_slices_IndexFunc_int64_int64_1Fi_allIn_1_b1
    simp [bsel_if])
  rw [h1, any_not]
  cases h : a.all (inR lo hi) <;> simp [x_slices_IndexFunc_int64_int64_1Fi_allIn_1_k1, h2]
def marks (k : Int) (n : Nat) : List F := (List.range n).map fun (i : Nat) => fint .f32 (k + (i : Int))
def marksI (k : Int) (n : Nat) : List Int := (List.range n).map fun (i : Nat) => k + (i : Int)
theorem marks_len (k : Int) (n : Nat) : (marks k n).length = n := by simp [marks]
theorem marksI_len (k : Int) (n : Nat) : (marksI k n).length = n := by simp [marksI]
def mkS (l : List UInt8) : ByteArray := ⟨l.toArray⟩
def byt (s : ByteArray) : List UInt8 := s.data.toList
theorem byt_mk (l : List UInt8) : byt (mkS l) = l := by simp [byt, mkS]
theorem mk_byt (s : ByteArray) : mkS (byt s) = s := Go.Lib.mk_data s
theorem siz (s : ByteArray) : s.size = (byt s).length := Go.Lib.size_eq s
theorem eqs_iff {s t : ByteArray} : eqs s t = decide (byt s = byt t) := by
  unfold eqs byt
  rw [Bool.eq_iff_iff]; simp only [beq_iff_eq, decide_eq_true_eq]
theorem wi64 {n : Int} (h0 : -9000000000000000000 ≤ n) (h1 : n ≤ 9000000000000000000) : IntKind.i64.wrap n = n := wrap_i64 (by omega) (by omega)
theorem natAbs_digit (v : Int) (hv : v.natAbs ≤ 9223372036854775808) : (v.tmod 10 < 0 → IntKind.i64.wrap (0 - v.tmod 10) = ((v.natAbs % 10 : Nat) : Int)) ∧ (¬ v.tmod 10 < 0 → v.tmod 10 = ((v.natAbs % 10 : Nat) : Int)) := by
  have h : (v.tmod 10).natAbs = v.natAbs % 10 := Int.natAbs_tmod v 10
  have h9 : v.natAbs % 10 < 10 := Nat.mod_lt _ (by decide)
  constructor
  · intro hn
    rw [wi64 (by omega) (by omega)]; omega
  · intro hn; omega
theorem natAbs_next (v : Int) : (v.tdiv 10).natAbs = v.natAbs / 10 := Int.natAbs_tdiv v 10
theorem u8_wrap {n : Int} (h0 : 0 ≤ n) (h1 : n < 256) : IntKind.u8.wrap n = n := by
  simp only [IntKind.wrap, IntKind.bits, IntKind.signed]
  simp
  omega
def decI (u : Nat) : List Int := (Go.Lib.decDigits u).map fun b => (b.toNat : Int)
def digI (u : Nat) : List Int := if u = 0 then [] else decI u
theorem decI_small {u : Nat} (h : u < 10) : decI u = [((48 + u : Nat) : Int)] := by
  unfold decI
  rw [Go.Lib.decDigits, dif_pos h]
  have : (UInt8.ofNat (48 + u)).toNat = 48 + u := by simp; omega
  show [((UInt8.ofNat (48 + u)).toNat : Int)] = _
  rw [this]
theorem decI_big {u : Nat} (h : ¬ u < 10) : decI u = decI (u / 10) ++ [((48 + u % 10 : Nat) : Int)] := by
  unfold decI
  conv => lhs; rw [Go.Lib.decDigits, dif_neg h]
  have : (UInt8.ofNat (48 + u % 10)).toNat = 48 + u % 10 := by simp; omega
  rw [List.map_append]
  show _ ++ [((UInt8.ofNat (48 + u % 10)).toNat : Int)] = _
  rw [this]
theorem digI_step {u : Nat} : decI u = digI (u / 10) ++ [((48 + u % 10 : Nat) : Int)] := by
  by_cases h : u < 10
  · rw [decI_small h, show u / 10 = 0 from by omega, show u % 10 = u from by omega]; rfl
  · rw [decI_big h]
    unfold digI
    rw [if_neg (by omega)]
theorem dec_step {l : List Int} {v : Int} (hl : l.length ≤ 100) (hv : v.natAbs ≤ 9223372036854775808) : s_l01Dec_k5 l v = some (.next (((48 + v.natAbs % 10 : Nat) : Int) :: l, v.tdiv 10)) := by
  obtain ⟨d1, d2⟩ := natAbs_digit v hv
  have h9 : v.natAbs % 10 < 10 := Nat.mod_lt _ (by decide)
  have hn := natAbs_next v
  have key : s_l01Dec_k6 l v ((v.natAbs % 10 : Nat) : Int) = some (.next (((48 + v.natAbs % 10 : Nat) : Int) :: l, v.tdiv 10)) := by
    unfold s_l01Dec_k6
    simp only [olet_eq]
    rw [wi64 (n := 48 + ((v.natAbs % 10 : Nat) : Int)) (by omega) (by omega), u8_wrap (by omega) (by omega), show apok 1 1 l.length = true from by simp only [apok, Bool.and_eq_true, decide_eq_true_eq]; omega, need_true, show (!decide (10 = 0)) = true from rfl, need_true, wi64 (by omega) (by omega)]
    simp
  unfold s_l01Dec_k5
  rw [show (!decide (10 = 0)) = true from rfl, need_true]
  simp only [olet_eq]
  by_cases h : v.tmod 10 < 0
  · rw [decide_eq_true h, bsel_true, d1 h, key]
  · rw [decide_eq_false h, bsel_false, d2 h, key]
theorem dec_loop : ∀ (k : Nat) (v : Int) (l : List Int), v.natAbs < 10 ^ k → v.natAbs ≤ 9223372036854775808 → 0 < l.length → l.length + k ≤ 100 → loopM s_l01Dec_s7 (l, v) = some (.inl (digI v.natAbs ++ l))
  | 0, v, l, h, _, hl, hk => by
    have hv : v.natAbs = 0 := by simpa using h
    have hv0 : v = 0 := by omega
    rw [loopM_out (e := l)]
    · rw [hv]; rfl
    · show s_l01Dec_b7 l v = _
      unfold s_l01Dec_b7
      rw [decide_eq_false (by omega), bsel_false, hv0]; rfl
  | k + 1, v, l, h, h64, hl, hk => by
    by_cases hv0 : v = 0
    · subst hv0
      rw [loopM_out (e := l)]
      · rfl
      · show s_l01Dec_b7 l 0 = _
        unfold s_l01Dec_b7
        rw [decide_eq_false (by omega), bsel_false]; rfl
    · have e : s_l01Dec_s7 (l, v) = some (.next (((48 + v.natAbs % 10 : Nat) : Int) :: l, v.tdiv 10)) := by
        show s_l01Dec_b7 l v = _
        unfold s_l01Dec_b7
        rw [decide_eq_false (by omega), bsel_false, decide_eq_false hv0, Bool.not_false, bsel_true, dec_step (by omega) h64]
      rw [loopM_next e, dec_loop k _ _ (by rw [natAbs_next]; rw [Nat.pow_succ] at h; omega) (by rw [natAbs_next]; omega) (by simp) (by simp; omega), natAbs_next]
      have : digI v.natAbs = decI v.natAbs := by unfold digI; rw [if_neg (by omega)]
      rw [this, digI_step]; simp
theorem str_decI (u : Nat) : (decI u).map (fun n => UInt8.ofNat n.toNat) = Go.Lib.decDigits u := by
  unfold decI
  rw [List.map_map]
  conv => rhs; rw [← List.map_id (Go.Lib.decDigits u)]
  exact List.map_congr_left fun b _ => by simp
theorem decI_len (u : Nat) (h : u < 10 ^ 20) : (decI u).length ≤ 20 := by
  have key : ∀ (k u : Nat), u < 10 ^ (k + 1) → (decI u).length ≤ k + 1 := by
    intro k
    induction k with
    | zero => intro u h; rw [decI_small (by simpa using h)]; simp
    | succ k ih =>
      intro u h
      by_cases hs : u < 10
      · rw [decI_small hs]; simp
      · rw [decI_big hs]
        have := ih (u / 10) (by rw [Nat.pow_succ] at h; omega)
        simp; omega
  exact key 19 u h
theorem s_dec_eq {n : Int} (h : n.natAbs ≤ 9223372036854775808) : s_l01Dec n = some (mkS (Go.Lib.itoa n)) := by
  have h20 : n.natAbs < 10 ^ 20 := by have : (9223372036854775808 : Nat) < 10 ^ 20 := by decide
                                      omega
  have e : s_l01Dec_s7 ([], n) = some (.next ([((48 + n.natAbs % 10 : Nat) : Int)], n.tdiv 10)) := by
    show s_l01Dec_b7 [] n = _
    unfold s_l01Dec_b7
    rw [show decide ((([] : List Int).length : Int) = 0) = true from rfl, bsel_true, dec_step (by simp) h]
  have l2 : loopM s_l01Dec_s7 ([], n) = some (.inl (decI n.natAbs)) := by
    rw [loopM_next e, dec_loop 20 _ _ (by rw [natAbs_next]; omega) (by rw [natAbs_next]; omega) (by simp) (by simp), natAbs_next, digI_step]
  have hd := decI_len n.natAbs h20
  unfold s_l01Dec
  rw [l2]
  show s_l01Dec_k7 n (decI n.natAbs) = _
  unfold s_l01Dec_k7 s_l01Dec_k8
  by_cases hn : n < 0
  · rw [decide_eq_true hn, bsel_true, show apok 1 1 (decI n.natAbs).length = true from by simp only [apok, Bool.and_eq_true, decide_eq_true_eq]; omega, need_true]
    unfold Go.Lib.itoa
    rw [if_pos hn]
    unfold strOfNums mkS
    rw [List.map_append, str_decI]; rfl
  · rw [decide_eq_false hn, bsel_false]
    unfold Go.Lib.itoa
    rw [if_neg hn]
    unfold strOfNums mkS
    rw [str_decI, show n.natAbs = n.toNat from by omega]
theorem i_dec_eq {n : Int} (h0 : -9223372036854775808 ≤ n) (h1 : n ≤ 9223372036854775807) : i_Decimal n = some (mkS (Go.Lib.itoa n)) := by
  unfold i_Decimal x_strconv_FormatInt
  rw [show decide ((10 : Int) = 10) = true from rfl, need_true, decide_eq_true h0, need_true, decide_eq_true h1, need_true]; rfl
theorem cats_mk {a b : List UInt8} (h : a.length + b.length ≤ 1000000000) : cats? (mkS a) (mkS b) = some (mkS (a ++ b)) := by
  unfold cats?
  rw [if_pos (by rw [siz, siz, byt_mk, byt_mk]; omega)]
  refine congrArg some ?_
  rw [← mk_byt (mkS a ++ mkS b)]
  refine congrArg mkS ?_
  show (mkS a ++ mkS b).data.toList = _
  simp [mkS]
theorem itoa_len {n : Int} (h : n.natAbs ≤ 9223372036854775808) : (Go.Lib.itoa n).length ≤ 21 := by
  have h20 : n.natAbs < 10 ^ 20 := by have : (9223372036854775808 : Nat) < 10 ^ 20 := by decide
                                      omega
  have := decI_len n.natAbs h20
  have e : (decI n.natAbs).length = (Go.Lib.decDigits n.natAbs).length := by unfold decI; simp
  unfold Go.Lib.itoa
  split
  · simp; omega
  · rw [show n.toNat = n.natAbs from by omega]; omega
theorem eqs_self (s : ByteArray) : eqs s s = true := by rw [eqs_iff]; simp
def txtL (l : List Int) : List UInt8 := if l = [] then [110, 111, 110, 101] else Go.Lib.join (l.map Go.Lib.itoa) [44]
def Mil (l : List Int) : Prop := ∀ x ∈ l, inR (-1000000) 1000000 x = true
theorem inR_abs {x : Int} (h : inR (-1000000) 1000000 x = true) : x.natAbs ≤ 1000000 := by
  simp [inR] at h; omega
theorem tail_len : ∀ (l : List Int), Mil l → (Go.Lib.joinTail [44] (l.map Go.Lib.itoa)).length ≤ 22 * l.length
  | [], _ => by simp [Go.Lib.joinTail]
  | x :: l, h => by
    have ih := tail_len l (fun y hy => h y (by simp [hy]))
    have hx := itoa_len (n := x) (by have := inR_abs (h x (by simp)); omega)
    simp only [Go.Lib.joinTail, List.map_cons, List.flatten_cons, List.length_append, List.length_cons, List.length_nil] at ih ⊢
    omega
theorem tail_cons (x : Int) (l : List Int) : Go.Lib.joinTail [44] ((x :: l).map Go.Lib.itoa) = [44] ++ Go.Lib.itoa x ++ Go.Lib.joinTail [44] (l.map Go.Lib.itoa) := by
  simp [Go.Lib.joinTail]
theorem drop_at {α : Type} {l : List α} {j : Nat} {x : α} (h : l[j]? = some x) : l.drop j = x :: l.drop (j + 1) := by
  have hj := lt_of_getElem? h
  rw [List.drop_eq_getElem_cons hj]
  rw [List.getElem?_eq_getElem hj] at h
  rw [Option.some.inj h]
theorem text_loop {l : List Int} (hl : l.length ≤ 1048576) (hb : Mil l) : ∀ (k j : Nat) (p : List UInt8), j + k = l.length → p.length + 30 * k ≤ 900000000 → loopM (s_l01Text_s1 l) (mkS p, (j : Int)) = some (.inl (mkS (p ++ Go.Lib.joinTail [44] ((l.drop j).map Go.Lib.itoa))))
  | 0, j, p, hj, hp => by
    have hd : l.drop j = [] := List.drop_eq_nil_of_le (by omega)
    rw [hd, loopM_out (e := mkS p)]
    · simp [Go.Lib.joinTail]
    · show s_l01Text_b1 l (mkS p) (j : Int) = _
      unfold s_l01Text_b1
      rw [decide_eq_false (by omega), bsel_false]
  | k + 1, j, p, hj, hp => by
    obtain ⟨x, hx⟩ : ∃ x, l[j]? = some x := ⟨_, List.getElem?_eq_getElem (by omega)⟩
    have hxa := inR_abs (hb x (List.mem_of_getElem? hx))
    have hil := itoa_len (n := x) (by omega)
    have e : s_l01Text_s1 l (mkS p, (j : Int)) = some (.next (mkS (p ++ ([44] ++ Go.Lib.itoa x)), ((j + 1 : Nat) : Int))) := by
      show s_l01Text_b1 l (mkS p) (j : Int) = _
      unfold s_l01Text_b1
      rw [decide_eq_true (by omega), bsel_true, at?_of (by omega) (by rw [show (j : Int).toNat = j from by omega]; exact hx), obind_eq, s_dec_eq (by omega), obind_eq, show lit_be717853 = mkS [44] from rfl, cats_mk (by simp; omega), obind_eq, cats_mk (by simp; omega), obind_eq]
      simp only [olet_eq]
      rw [wi64 (by omega) (by omega)]; rfl
    rw [loopM_next e, text_loop hl hb k (j + 1) _ (by omega) (by simp; omega), drop_at hx, tail_cons]
    simp
theorem s_text_eq {l : List Int} (hl : l.length ≤ 1048576) (hb : Mil l) : s_l01Text l = some (mkS (txtL l)) := by
  unfold s_l01Text
  cases l with
  | nil => rfl
  | cons x r =>
    have hxa := inR_abs (hb x (by simp))
    have hil := itoa_len (n := x) (by omega)
    simp only [List.length_cons] at hl
    rw [decide_eq_false (by simp; omega), bsel_false, show at? (x :: r) 0 = some x from rfl, obind_eq, s_dec_eq (by omega), obind_eq]
    have e : loopM (s_l01Text_s1 (x :: r)) (mkS (Go.Lib.itoa x), 1) = _ := text_loop (l := x :: r) (by simp; omega) hb r.length 1 (Go.Lib.itoa x) (by simp; omega) (by omega)
    rw [e]
    unfold txtL
    rw [if_neg (by simp), List.map_cons, Go.Lib.join_cons]; rfl
theorem list_loop {l : List Int} (hl : l.length ≤ 1048576) (hb : Mil l) : ∀ (k j : Nat) (L : List ByteArray), j + k = l.length → L.length ≤ j → loopM (i_listText_s1 l) (L, (j : Int)) = some (.inl (L ++ (l.drop j).map fun x => mkS (Go.Lib.itoa x)))
  | 0, j, L, hj, hL => by
    have hd : l.drop j = [] := List.drop_eq_nil_of_le (by omega)
    rw [hd, loopM_out (e := L)]
    · simp
    · show i_listText_b1 l L (j : Int) = _
      unfold i_listText_b1
      rw [decide_eq_false (by omega), bsel_false]
  | k + 1, j, L, hj, hL => by
    obtain ⟨x, hx⟩ : ∃ x, l[j]? = some x := ⟨_, List.getElem?_eq_getElem (by omega)⟩
    have hxa := inR_abs (hb x (List.mem_of_getElem? hx))
    have e : i_listText_s1 l (L, (j : Int)) = some (.next (L ++ [mkS (Go.Lib.itoa x)], ((j + 1 : Nat) : Int))) := by
      show i_listText_b1 l L (j : Int) = _
      unfold i_listText_b1
      rw [decide_eq_true (by omega), bsel_true, at?_of (by omega) (by rw [show (j : Int).toNat = j from by omega]; exact hx), obind_eq, i_dec_eq (by omega) (by omega), obind_eq, show apok 16 L.length 1 = true from by simp only [apok, Bool.and_eq_true, decide_eq_true_eq]; omega, need_true]
      simp only [olet_eq]
      rw [wi64 (by omega) (by omega)]; rfl
    rw [loopM_next e, list_loop hl hb k (j + 1) _ (by omega) (by simp; omega), drop_at hx]
    simp
theorem i_text_eq {l : List Int} (hl : l.length ≤ 1048576) (hb : Mil l) : i_listText l = some (mkS (txtL l)) := by
  have e : loopM (i_listText_s1 l) ([], 0) = some (.inl (l.map fun x => mkS (Go.Lib.itoa x))) := by
    have := list_loop hl hb l.length 0 [] (by omega) (by simp)
    simpa using this
  unfold i_listText
  rw [e]
  show i_listText_k1 (l.map fun x => mkS (Go.Lib.itoa x)) = _
  unfold i_listText_k1 i_joined
  cases l with
  | nil => rfl
  | cons x r =>
    have hxa := inR_abs (hb x (by simp))
    have hil := itoa_len (n := x) (by omega)
    have htl := tail_len r (fun y hy => hb y (by simp [hy]))
    simp only [List.length_cons] at hl
    have hm : ((x :: r).map fun x => mkS (Go.Lib.itoa x)).map (fun s => s.data.toList) = (x :: r).map Go.Lib.itoa := by
      rw [List.map_map]
      exact List.map_congr_left fun y _ => byt_mk _
    have hj : Go.Lib.join ((x :: r).map Go.Lib.itoa) [44] = Go.Lib.itoa x ++ Go.Lib.joinTail [44] (r.map Go.Lib.itoa) := by rw [List.map_cons, Go.Lib.join_cons]
    have js : x_strings_Join ((x :: r).map fun x => mkS (Go.Lib.itoa x)) lit_be717853 = some (mkS (txtL (x :: r))) := by
      unfold x_strings_Join
      rw [hm, show lit_be717853.data.toList = [44] from rfl]
      rw [decide_eq_true (by simp), need_true, decide_eq_true (by simp; omega), need_true, decide_eq_true (by rw [hj]; simp; omega), need_true]
      unfold txtL
      rw [if_neg (by simp)]; rfl
    rw [decide_eq_false (by simp; omega), bsel_false, js, obind_eq, obind_eq]
theorem txt_len {l : List Int} (hb : Mil l) : (txtL l).length ≤ 22 * l.length + 4 := by
  unfold txtL
  cases l with
  | nil => simp
  | cons x r =>
    have hxa := inR_abs (hb x (by simp))
    have hil := itoa_len (n := x) (by omega)
    have htl := tail_len r (fun y hy => hb y (by simp [hy]))
    rw [if_neg (by simp), List.map_cons, Go.Lib.join_cons]
    simp; omega
theorem WholeText_eq (a0 a1 : Int) (a2 : List Int) (h2 : a2.length ≤ 1048576) : ∃ (z0 : ByteArray) (z1 : Bool), s_WholeText a0 a1 a2 = some (z0, z1) ∧ i_WholeText a0 a1 a2 = some (z0, z1) := by
  have key : ∃ v : Bool, s_l06Is a0 a1 a2 1000000 = some v ∧ i_ValidWhole a0 a1 a2 = some v ∧ (v = true → inR 1 6 a0 = true ∧ inR 1 6 a1 = true ∧ a2.all (inR (-1000000) 1000000) = true) := by
    unfold s_l06Is i_ValidWhole i_isWhole i_length_int64
    rw [s_l06Bound_eq h2]
    simp only [s_l00In_eq, i_inRange_eq, i_allIn_eq h2, obind_eq, olet_eq]
    have w0 : IntKind.i64.wrap (0 - 1000000) = -1000000 := by decide
    rw [w0]
    have ir : ∀ x : Int, (decide (1 ≤ x) && decide (x ≤ 6)) = inR 1 6 x := fun _ => rfl
    simp only [ir]
    cases inR 1 6 a0
    · exact ⟨false, rfl, rfl, fun h => by cases h⟩
    · cases inR 1 6 a1
      · exact ⟨false, rfl, rfl, fun h => by cases h⟩
      · cases decide ((a2.length : Int) = IntKind.i64.wrap (a0 * a1))
        · exact ⟨false, rfl, rfl, fun h => by cases h⟩
        · exact ⟨_, rfl, rfl, fun h => ⟨rfl, rfl, h⟩⟩
  obtain ⟨v, e1, e2, e3⟩ := key
  unfold s_WholeText i_WholeText
  rw [e1, e2, obind_eq, obind_eq]
  cases v
  · exact ⟨lit_99ba06bc, false, by rw [bsel_false], by rw [bsel_false]⟩
  · obtain ⟨k0, k1, k2⟩ := e3 rfl
    have m2 : Mil a2 := fun x hx => List.all_eq_true.1 k2 x hx
    have m1 : Mil [a0, a1] := by
      intro x hx
      simp only [List.mem_cons, List.mem_nil_iff, or_false] at hx
      simp [inR] at k0 k1 ⊢
      rcases hx with rfl | rfl <;> omega
    have l1 := txt_len m1
    have l2 := txt_len m2
    have hs : s_l08Whole a0 a1 a2 = some (mkS ((txtL [a0, a1] ++ [59]) ++ txtL a2)) := by
      unfold s_l08Whole
      rw [s_text_eq (by simp) m1, obind_eq, show lit_b7340269 = mkS [59] from rfl, cats_mk (by simp at l1 ⊢; omega), obind_eq, s_text_eq h2 m2, obind_eq, cats_mk (by simp at l1 ⊢; omega), obind_eq]
    rw [bsel_true, bsel_true, hs, obind_eq, i_text_eq (by simp) m1, obind_eq, show lit_b7340269 = mkS [59] from rfl, cats_mk (by simp at l1 ⊢; omega), obind_eq, i_text_eq h2 m2, obind_eq, cats_mk (by simp at l1 ⊢; omega), obind_eq]
    exact ⟨_, _, rfl, rfl⟩
theorem w_FnExactWholeText_true (a0 : Int) (a1 : Int) (a2 : List Int) (s_a2 : Small a2) : w_FnExactWholeText a0 a1 a2 = some true := by
  obtain ⟨l0, e0, h0⟩ := w_szInt64S_ex a2 1048576 s_a2 (by omega) (by omega)
  rcases Int.lt_or_le l0 0 with c0 | c0
  · simp [w_FnExactWholeText, w_eqWhole, w_szWhole, w_toWhole, e0, c0]
  have d0 : decide (l0 < 0) = false := by simp; omega
  have t0 := h0 c0
  have t_a2 : a2.length ≤ 1048576 := by omega
  have f1 : w_toInt64S a2 = some a2 := w_toInt64S_eq a2 t_a2
  obtain ⟨z0, z1, p1, p2⟩ := WholeText_eq a0 a1 a2 t_a2
  have f2 : eqs z0 z0 = true := eqs_self z0
  have f3 : (!(z1 == z1)) = false := by cases z1 <;> rfl
  have f4 : w_eqInt64S a2 a2 = some true := w_eqInt64S_refl a2 t_a2
  simp only [w_FnExactWholeText, w_eqWhole, w_szWhole, w_toWhole, e0, d0, f1, p1, p2, f2, f3, f4, obind_eq, obind2_eq, obind3_eq, obind4_eq, obind5_eq, obind6_eq, obind7_eq, obind8_eq, bsel_true, bsel_false, need_true, olet_eq, marks_len, marksI_len, decide_true, Bool.not_true, Bool.not_false]

end Go.Proofs.YtddegdokdpeboaaDoor
