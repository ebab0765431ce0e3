/- The plain law of FnExactJournalOf. -/
import Derived.Test.YtbebfcolmdfopaaDoorG0
namespace Go.Proofs.YtbebfcolmdfopaaDoor
set_option linter.unusedSimpArgs false
set_option linter.unusedVariables false
open Go Go.AM
def FOks (l : List F) : Prop := ∀ c ∈ l, FOk .f32 c
theorem FOks.set {l : List F} (h : FOks l) {n : Nat} {x : F} (hx : FOk .f32 x) : FOks (l.set n x) := by
  intro c hc
  rcases List.mem_or_eq_of_mem_set hc with h1 | h1
  · exact h c h1
  · exact h1 ▸ hx
def Names (n : Nat) (L : List Int) : Prop := ∀ x ∈ L, 0 ≤ x ∧ x < (n : Int)
theorem Names.set {n : Nat} {L : List Int} (h : Names n L) {j : Nat} {x : Int} (hx : 0 ≤ x ∧ x < (n : Int)) : Names n (L.set j x) := fun y hy => (List.mem_or_eq_of_mem_set hy).elim (fun k => h y k) (fun k => by rw [k]; exact hx)
def mkS (l : List UInt8) : ByteArray := ⟨l.toArray⟩
def byt (s : ByteArray) : List UInt8 := s.data.toList
theorem byt_mk (l : List UInt8) : byt (mkS l) = l := by simp [byt, mkS]
theorem mk_byt (s : ByteArray) : mkS (byt s) = s := Go.Lib.mk_data s
theorem siz (s : ByteArray) : s.size = (byt s).length := Go.Lib.size_eq s
theorem sat_mk {s : ByteArray} {i : Nat} {b : UInt8} (h : (byt s)[i]? = some b) : sat? s (i : Int) = some (b.toNat : Int) := by
  unfold sat?
  rw [if_pos (by omega)]
  have hi : i < s.size := by rw [siz]; exact (List.getElem?_eq_some_iff.1 h).1
  have e : s[(i : Int).toNat]? = some b := by
    rw [show (i : Int).toNat = i from by omega, getElem?_pos s i hi]
    have this : s.data.toList[i]? = some s[i] := by
      rw [Array.getElem?_toList]; exact getElem?_pos s.data i hi
    rw [show s.data.toList[i]? = some b from h] at this
    exact this.symm
  rw [e]; rfl
theorem eqs_iff {s t : ByteArray} : eqs s t = decide (byt s = byt t) := by
  unfold eqs byt
  rw [Bool.eq_iff_iff]; simp only [beq_iff_eq, decide_eq_true_eq]
theorem idx_hit {c : UInt8} : ∀ {l : List UInt8}, c ∈ l → ∃ p q, l = p ++ c :: q ∧ c ∉ p ∧ Go.Lib.indexByte l c = (p.length : Int)
  | [], h => by simp at h
  | b :: l, h => by
    by_cases hb : b = c
    · exact ⟨[], l, by simp [hb], by simp, by unfold Go.Lib.indexByte; rw [if_pos (by simp [hb])]; rfl⟩
    · have hl : c ∈ l := by rcases List.mem_cons.1 h with e | e; exact absurd e.symm hb; exact e
      obtain ⟨p, q, e1, e2, e3⟩ := idx_hit hl
      refine ⟨b :: p, q, by simp [e1], by simp [e2, Ne.symm hb], ?_⟩
      unfold Go.Lib.indexByte
      rw [if_neg (by simp [hb]), e3, if_neg (by simp)]; simp
theorem idx_miss {c : UInt8} : ∀ {l : List UInt8}, c ∉ l → Go.Lib.indexByte l c = -1
  | [], _ => rfl
  | b :: l, h => by
    have hb : b ≠ c := fun e => h (by simp [e])
    have hl : c ∉ l := fun e => h (by simp [e])
    unfold Go.Lib.indexByte
    rw [if_neg (by simp [hb]), idx_miss hl]; rfl
theorem wi64 {n : Int} (h0 : -9000000000000000000 ≤ n) (h1 : n ≤ 9000000000000000000) : IntKind.i64.wrap n = n := wrap_i64 (by omega) (by omega)
theorem natAbs_digit (v : Int) (hv : v.natAbs ≤ 9223372036854775808) : (v.tmod 10 < 0 → IntKind.i64.wrap (0 - v.tmod 10) = ((v.natAbs % 10 : Nat) : Int)) ∧ (¬ v.tmod 10 < 0 → v.tmod 10 = ((v.natAbs % 10 : Nat) : Int)) := by
  have h : (v.tmod 10).natAbs = v.natAbs % 10 := Int.natAbs_tmod v 10
  have h9 : v.natAbs % 10 < 10 := Nat.mod_lt _ (by decide)
  constructor
  · intro hn
    rw [wi64 (by omega) (by omega)]; omega
  · intro hn; omega
theorem natAbs_next (v : Int) : (v.tdiv 10).natAbs = v.natAbs / 10 := Int.natAbs_tdiv v 10
theorem u8_wrap {n : Int} (h0 : 0 ≤ n) (h1 : n < 256) : IntKind.u8.wrap n = n := by
  simp only [IntKind.wrap, IntKind.bits, IntKind.signed]
  simp
  omega
def decI (u : Nat) : List Int := (Go.Lib.decDigits u).map fun b => (b.toNat : Int)
def digI (u : Nat) : List Int := if u = 0 then [] else decI u
theorem decI_small {u : Nat} (h : u < 10) : decI u = [((48 + u : Nat) : Int)] := by
  unfold decI
  rw [Go.Lib.decDigits, dif_pos h]
  have : (UInt8.ofNat (48 + u)).toNat = 48 + u := by simp; omega
  show [((UInt8.ofNat (48 + u)).toNat : Int)] = _
  rw [this]
theorem decI_big {u : Nat} (h : ¬ u < 10) : decI u = decI (u / 10) ++ [((48 + u % 10 : Nat) : Int)] := by
  unfold decI
  conv => lhs; rw [Go.Lib.decDigits, dif_neg h]
  have : (UInt8.ofNat (48 + u % 10)).toNat = 48 + u % 10 := by simp; omega
  rw [List.map_append]
  show _ ++ [((UInt8.ofNat (48 + u % 10)).toNat : Int)] = _
  rw [this]
theorem digI_step {u : Nat} : decI u = digI (u / 10) ++ [((48 + u % 10 : Nat) : Int)] := by
  by_cases h : u < 10
  · rw [decI_small h, show u / 10 = 0 from by omega, show u % 10 = u from by omega]; rfl
  · rw [decI_big h]
    unfold digI
    rw [if_neg (by omega)]
theorem dec_step {l : List Int} {v : Int} (hl : l.length ≤ 100) (hv : v.natAbs ≤ 9223372036854775808) : s_l01Dec_k5 l v = some (.next (((48 + v.natAbs % 10 : Nat) : Int) :: l, v.tdiv 10)) := by
  obtain ⟨d1, d2⟩ := natAbs_digit v hv
  have h9 : v.natAbs % 10 < 10 := Nat.mod_lt _ (by decide)
  have hn := natAbs_next v
  have key : s_l01Dec_k6 l v ((v.natAbs % 10 : Nat) : Int) = some (.next (((48 + v.natAbs % 10 : Nat) : Int) :: l, v.tdiv 10)) := by
    unfold s_l01Dec_k6
    simp only [olet_eq]
    rw [wi64 (n := 48 + ((v.natAbs % 10 : Nat) : Int)) (by omega) (by omega), u8_wrap (by omega) (by omega), show apok 1 1 l.length = true from by simp only [apok, Bool.and_eq_true, decide_eq_true_eq]; omega, need_true, show (!decide (10 = 0)) = true from rfl, need_true, wi64 (by omega) (by omega)]
    simp
  unfold s_l01Dec_k5
  rw [show (!decide (10 = 0)) = true from rfl, need_true]
  simp only [olet_eq]
  by_cases h : v.tmod 10 < 0
  · rw [decide_eq_true h, bsel_true, d1 h, key]
  · rw [decide_eq_false h, bsel_false, d2 h, key]
theorem dec_loop : ∀ (k : Nat) (v : Int) (l : List Int), v.natAbs < 10 ^ k → v.natAbs ≤ 9223372036854775808 → 0 < l.length → l.length + k ≤ 100 → loopM s_l01Dec_s7 (l, v) = some (.inl (digI v.natAbs ++ l))
  | 0, v, l, h, _, hl, hk => by
    have hv : v.natAbs = 0 := by simpa using h
    have hv0 : v = 0 := by omega
    rw [loopM_out (e := l)]
    · rw [hv]; rfl
    · show s_l01Dec_b7 l v = _
      unfold s_l01Dec_b7
      rw [decide_eq_false (by omega), bsel_false, hv0]; rfl
  | k + 1, v, l, h, h64, hl, hk => by
    by_cases hv0 : v = 0
    · subst hv0
      rw [loopM_out (e := l)]
      · rfl
      · show s_l01Dec_b7 l 0 = _
        unfold s_l01Dec_b7
        rw [decide_eq_false (by omega), bsel_false]; rfl
    · have e : s_l01Dec_s7 (l, v) = some (.next (((48 + v.natAbs % 10 : Nat) : Int) :: l, v.tdiv 10)) := by
        show s_l01Dec_b7 l v = _
        unfold s_l01Dec_b7
        rw [decide_eq_false (by omega), bsel_false, decide_eq_false hv0, Bool.not_false, bsel_true, dec_step (by omega) h64]
      rw [loopM_next e, dec_loop k _ _ (by rw [natAbs_next]; rw [Nat.pow_succ] at h; omega) (by rw [natAbs_next]; omega) (by simp) (by simp; omega), natAbs_next]
      have : digI v.natAbs = decI v.natAbs := by unfold digI; rw [if_neg (by omega)]
      rw [this, digI_step]; simp
theorem str_decI (u : Nat) : (decI u).map (fun n => UInt8.ofNat n.toNat) = Go.Lib.decDigits u := by
  unfold decI
  rw [List.map_map]
  conv => rhs; rw [← List.map_id (Go.Lib.decDigits u)]
  exact List.map_congr_left fun b _ => by simp
theorem decI_len (u : Nat) (h : u < 10 ^ 20) : (decI u).length ≤ 20 := by
  have key : ∀ (k u : Nat), u < 10 ^ (k + 1) → (decI u).length ≤ k + 1 := by
    intro k
    induction k with
    | zero => intro u h; rw [decI_small (by simpa using h)]; simp
    | succ k ih =>
      intro u h
      by_cases hs : u < 10
      · rw [decI_small hs]; simp
      · rw [decI_big hs]
        have := ih (u / 10) (by rw [Nat.pow_succ] at h; omega)
        simp; omega
  exact key 19 u h
theorem s_dec_eq {n : Int} (h : n.natAbs ≤ 9223372036854775808) : s_l01Dec n = some (mkS (Go.Lib.itoa n)) := by
  have h20 : n.natAbs < 10 ^ 20 := by have : (9223372036854775808 : Nat) < 10 ^ 20 := by decide
                                      omega
  have e : s_l01Dec_s7 ([], n) = some (.next ([((48 + n.natAbs % 10 : Nat) : Int)], n.tdiv 10)) := by
    show s_l01Dec_b7 [] n = _
    unfold s_l01Dec_b7
    rw [show decide ((([] : List Int).length : Int) = 0) = true from rfl, bsel_true, dec_step (by simp) h]
  have l2 : loopM s_l01Dec_s7 ([], n) = some (.inl (decI n.natAbs)) := by
    rw [loopM_next e, dec_loop 20 _ _ (by rw [natAbs_next]; omega) (by rw [natAbs_next]; omega) (by simp) (by simp), natAbs_next, digI_step]
  have hd := decI_len n.natAbs h20
  unfold s_l01Dec
  rw [l2]
  show s_l01Dec_k7 n (decI n.natAbs) = _
  unfold s_l01Dec_k7 s_l01Dec_k8
  by_cases hn : n < 0
  · rw [decide_eq_true hn, bsel_true, show apok 1 1 (decI n.natAbs).length = true from by simp only [apok, Bool.and_eq_true, decide_eq_true_eq]; omega, need_true]
    unfold Go.Lib.itoa
    rw [if_pos hn]
    unfold strOfNums mkS
    rw [List.map_append, str_decI]; rfl
  · rw [decide_eq_false hn, bsel_false]
    unfold Go.Lib.itoa
    rw [if_neg hn]
    unfold strOfNums mkS
    rw [str_decI, show n.natAbs = n.toNat from by omega]
theorem i_dec_eq {n : Int} (h0 : -9223372036854775808 ≤ n) (h1 : n ≤ 9223372036854775807) : i_Decimal n = some (mkS (Go.Lib.itoa n)) := by
  unfold i_Decimal x_strconv_FormatInt
  rw [show decide ((10 : Int) = 10) = true from rfl, need_true, decide_eq_true h0, need_true, decide_eq_true h1, need_true]; rfl
theorem chk_loop (s : ByteArray) (hs : (byt s).length ≤ 2000000) : ∀ (k j : Nat) (c : Int), j + k = (byt s).length → 0 ≤ c → c < 65003 → ∃ z, loopM (s_l01Check_s1 s) (c, (j : Int)) = some (.inl z) ∧ 0 ≤ z ∧ z < 65003
  | 0, j, c, hj, h0, h1 => ⟨c, loopM_out (by
      show s_l01Check_b1 s c (j : Int) = _
      unfold s_l01Check_b1
      rw [siz, decide_eq_false (by omega), bsel_false]), h0, h1⟩
  | k + 1, j, c, hj, h0, h1 => by
    obtain ⟨b, hb⟩ : ∃ b, (byt s)[j]? = some b := ⟨_, List.getElem?_eq_getElem (by omega)⟩
    have hb2 : b.toNat < 256 := b.toNat_lt
    have e : s_l01Check_s1 s (c, (j : Int)) = some (.next ((863 * c + (b.toNat : Int) + 157).tmod 65003, ((j + 1 : Nat) : Int))) := by
      show s_l01Check_b1 s c (j : Int) = _
      unfold s_l01Check_b1
      rw [siz, decide_eq_true (by omega), bsel_true, sat_mk hb]
      simp only [olet_eq, obind_eq]
      rw [wi64 (n := 863 * c) (by omega) (by omega), wi64 (n := (b.toNat : Int)) (by omega) (by omega), wi64 (n := 863 * c + (b.toNat : Int)) (by omega) (by omega), wi64 (n := 863 * c + (b.toNat : Int) + 157) (by omega) (by omega), show (!decide (65003 = 0)) = true from rfl, need_true, wi64 (by omega) (by omega)]; rfl
    rw [loopM_next e]
    have ht : (863 * c + (b.toNat : Int) + 157).tmod 65003 = (863 * c + (b.toNat : Int) + 157) % 65003 := Int.tmod_eq_emod_of_nonneg (by omega)
    exact chk_loop s hs k (j + 1) _ (by omega) (by omega) (by omega)
noncomputable def chkV (c : Int) (s : ByteArray) : Int := (s_l01Check c s).getD 0
theorem chk_eq {c : Int} {s : ByteArray} (hs : (byt s).length ≤ 2000000) (h0 : 0 ≤ c) (h1 : c < 65003) : s_l01Check c s = some (chkV c s) ∧ 0 ≤ chkV c s ∧ chkV c s < 65003 := by
  obtain ⟨z, e, h2, h3⟩ := chk_loop s hs (byt s).length 0 c (by omega) h0 h1
  have e1 : s_l01Check c s = some z := by
    unfold s_l01Check
    have e : loopM (s_l01Check_s1 s) (c, 0) = some (.inl z) := e
    rw [e]; rfl
  have e2 : chkV c s = z := by unfold chkV; rw [e1]; rfl
  rw [e2]; exact ⟨e1, h2, h3⟩
theorem checkOf_is (c : Int) (s : ByteArray) : i_checkOf c s = s_l01Check c s := rfl
theorem idx_at {c : UInt8} {q : List UInt8} : ∀ {p : List UInt8}, c ∉ p → Go.Lib.indexByte (p ++ c :: q) c = (p.length : Int)
  | [], _ => by
    show Go.Lib.indexByte (c :: q) c = _
    unfold Go.Lib.indexByte
    rw [if_pos (by simp)]; rfl
  | b :: l, h => by
    have hb : b ≠ c := fun e => h (by simp [e])
    have hl : c ∉ l := fun e => h (by simp [e])
    show Go.Lib.indexByte (b :: (l ++ c :: q)) c = _
    unfold Go.Lib.indexByte
    rw [if_neg (by simp [hb]), idx_at hl, if_neg (by simp)]; simp
theorem x_index_one {s sep : ByteArray} {b : UInt8} (h1 : byt sep = [b]) : x_internal_stringslite_Index s sep = some (Go.Lib.indexByte (byt s) b) := by
  have hz : (sep.size : Int) = 1 := by rw [siz, h1]; rfl
  unfold x_internal_stringslite_Index
  rw [hz, decide_eq_false (by omega), bsel_false, eqs_iff]
  by_cases h : byt sep = byt s
  · rw [decide_eq_true h, bsel_true, ← h, h1]
    have := idx_at (c := b) (q := []) (p := []) (by simp)
    exact congrArg some this.symm
  · rw [decide_eq_false h, bsel_false, decide_eq_true rfl, bsel_true]
    have hs : sat? sep 0 = some (b.toNat : Int) := sat_mk (i := 0) (by rw [h1]; rfl)
    rw [hs, obind_eq]
    unfold x_internal_stringslite_IndexByte idxB
    rw [obind_eq, show ((b.toNat : Int)).toNat.toUInt8 = b from by simp]; rfl
theorem cats_mk {a b : List UInt8} (h : a.length + b.length ≤ 1000000000) : cats? (mkS a) (mkS b) = some (mkS (a ++ b)) := by
  unfold cats?
  rw [if_pos (by rw [siz, siz, byt_mk, byt_mk]; omega)]
  refine congrArg some ?_
  rw [← mk_byt (mkS a ++ mkS b)]
  refine congrArg mkS ?_
  show (mkS a ++ mkS b).data.toList = _
  simp [mkS]
theorem itoa_len {n : Int} (h : n.natAbs ≤ 9223372036854775808) : (Go.Lib.itoa n).length ≤ 21 := by
  have h20 : n.natAbs < 10 ^ 20 := by have : (9223372036854775808 : Nat) < 10 ^ 20 := by decide
                                      omega
  have := decI_len n.natAbs h20
  have e : (decI n.natAbs).length = (Go.Lib.decDigits n.natAbs).length := by unfold decI; simp
  unfold Go.Lib.itoa
  split
  · simp; omega
  · rw [show n.toNat = n.natAbs from by omega]; omega
theorem eqs_self (s : ByteArray) : eqs s s = true := by rw [eqs_iff]; simp
theorem w_eqStringS_refl (a : List ByteArray) (ha : a.length ≤ 1048576) : w_eqStringS a a = some true := by
  have key : ∀ (k j : Nat), j + k = a.length → loopM (w_eqStringS_s1 a a) (j : Int) = some (.inl ()) := by
    intro k
    induction k with
    | zero =>
      intro j hj
      refine loopM_out ?_
      show w_eqStringS_b1 a a (j : Int) = _
      unfold w_eqStringS_b1
      rw [decide_eq_false (by omega), bsel_false]
    | succ k ih =>
      intro j hj
      obtain ⟨x, hx⟩ : ∃ x, a[j]? = some x := ⟨_, List.getElem?_eq_getElem (by omega)⟩
      rw [loopM_next (s' := ((j + 1 : Nat) : Int))]
      · exact ih (j + 1) (by omega)
      · show w_eqStringS_b1 a a (j : Int) = _
        unfold w_eqStringS_b1
        rw [decide_eq_true (by omega), bsel_true, at?_of (by omega) (by rw [show (j : Int).toNat = j from by omega]; exact hx), obind_eq, obind_eq, eqs_self, Bool.not_true, bsel_false]
        simp only [olet_eq]
        rw [wi64 (by omega) (by omega)]; rfl
  have k0 : loopM (w_eqStringS_s1 a a) 0 = some (.inl ()) := key a.length 0 (by omega)
  unfold w_eqStringS
  rw [decide_eq_true rfl, Bool.not_true, bsel_false, k0]; rfl
theorem drop_at {α : Type} {l : List α} {j : Nat} {x : α} (h : l[j]? = some x) : l.drop j = x :: l.drop (j + 1) := by
  have hj := lt_of_getElem? h
  rw [List.drop_eq_getElem_cons hj]
  rw [List.getElem?_eq_getElem hj] at h
  rw [Option.some.inj h]
noncomputable def jl (c : Int) (l : ByteArray) : List UInt8 := Go.Lib.itoa (chkV c l) ++ [32] ++ byt l ++ [10]
noncomputable def jall : Int → List ByteArray → List UInt8
  | _, [] => []
  | c, l :: r => jl c l ++ jall (chkV c l) r
def sumJ : List ByteArray → Nat
  | [] => 0
  | l :: r => (byt l).length + 3 + sumJ r
def no10 (ls : List ByteArray) : Bool := ls.all fun l => decide (¬ (10 : UInt8) ∈ byt l)
theorem itoa_pos {n : Int} (h : 0 ≤ n) : 1 ≤ (Go.Lib.itoa n).length := by
  obtain ⟨u, rfl⟩ := Int.eq_ofNat_of_zero_le h
  rw [Go.Lib.itoa_nonneg]
  unfold Go.Lib.decDigits
  split <;> simp
theorem mkS_byt (l : ByteArray) : mkS (byt l) = l := by
  cases l with
  | mk a => rfl
theorem jl_len {c : Int} {l : ByteArray} (hl : (byt l).length ≤ 2000000) (h0 : 0 ≤ c) (h1 : c < 65003) : (byt l).length + 3 ≤ (jl c l).length ∧ (jl c l).length ≤ (byt l).length + 23 := by
  obtain ⟨_, k1, k2⟩ := chk_eq hl h0 h1
  have a := itoa_pos k1
  have b := itoa_len (n := chkV c l) (by omega)
  unfold jl
  simp only [List.length_append, List.length_cons, List.length_nil]
  omega
theorem sumJ_le : ∀ (ls : List ByteArray) (c : Int), (∀ l ∈ ls, (byt l).length ≤ 2000000) → 0 ≤ c → c < 65003 → sumJ ls ≤ (jall c ls).length
  | [], _, _, _, _ => by simp [sumJ]
  | l :: r, c, hl, h0, h1 => by
    have hl0 := hl l (by simp)
    obtain ⟨_, k1, k2⟩ := chk_eq hl0 h0 h1
    have ih := sumJ_le r (chkV c l) (fun x hx => hl x (by simp [hx])) k1 k2
    have := (jl_len hl0 h0 h1).1
    show (byt l).length + 3 + sumJ r ≤ (jl c l ++ jall (chkV c l) r).length
    rw [List.length_append]
    omega
theorem has_eq (l : ByteArray) : x_strings_Contains l ⟨#[10]⟩ = some (decide ((10 : UInt8) ∈ byt l)) := by
  unfold x_strings_Contains x_strings_Index
  rw [x_index_one (b := 10) (by rfl), obind_eq, obind_eq]
  by_cases h : (10 : UInt8) ∈ byt l
  · obtain ⟨p, q, _, _, e⟩ := idx_hit h
    rw [e, decide_eq_true h, decide_eq_true (by omega)]
  · rw [idx_miss h, decide_eq_false h]
    rfl
theorem byt_app (a b : ByteArray) : byt (a ++ b) = byt a ++ byt b := by
  unfold byt
  simp
theorem jrun_eq : ∀ (ls : List ByteArray) (c : Int) (t : ByteArray), (∀ l ∈ ls, (byt l).length ≤ 2000000) → 0 ≤ c → c < 65003 → (byt t).length ≤ 16000 →
    jrun ls c t = some (if no10 ls = true ∧ (byt t ++ jall c ls).length ≤ 16000 then (mkS (byt t ++ jall c ls), true) else (⟨#[]⟩, false))
  | [], c, t, _, _, _, ht => by
    unfold jrun jall
    rw [List.append_nil, mkS_byt, if_pos ⟨rfl, ht⟩]
  | l :: r, c, t, hl, h0, h1, ht => by
    have hl0 := hl l (by simp)
    obtain ⟨k0, k1, k2⟩ := chk_eq hl0 h0 h1
    have hit := itoa_len (n := chkV c l) (by omega)
    have e : byt (t ++ (mkS (Go.Lib.itoa (chkV c l)) ++ ⟨#[32]⟩ ++ l ++ ⟨#[10]⟩)) = byt t ++ jl c l := by
      rw [byt_app, byt_app, byt_app, byt_app, byt_mk]
      rfl
    have en : no10 (l :: r) = (decide (¬ (10 : UInt8) ∈ byt l) && no10 r) := rfl
    unfold jrun
    rw [checkOf_is, k0, obind_eq, i_dec_eq (by omega) (by omega), obind_eq, decide_eq_true (by rw [siz, siz, siz, byt_mk]; omega), need_true, has_eq, obind_eq]
    by_cases h10 : (10 : UInt8) ∈ byt l
    · rw [decide_eq_true h10, bsel_true, if_neg (by rw [en]; simp [h10])]
    · rw [decide_eq_false h10, bsel_false, siz, e]
      have hj : (byt t ++ jall c (l :: r)).length = (byt t ++ jl c l).length + (jall (chkV c l) r).length := by
        show (byt t ++ (jl c l ++ jall (chkV c l) r)).length = _
        simp only [List.length_append]; omega
      by_cases hbig : 16000 < (byt t ++ jl c l).length
      · rw [decide_eq_true hbig, bsel_true, if_neg (by rw [hj]; omega)]
      · rw [decide_eq_false hbig, bsel_false, jrun_eq r (chkV c l) _ (fun x hx => hl x (by simp [hx])) k1 k2 (by rw [e]; omega), e]
        have ea : byt t ++ jl c l ++ jall (chkV c l) r = byt t ++ jall c (l :: r) := List.append_assoc ..
        rw [ea, en]
        simp [h10]
theorem s_scan {a : List ByteArray} {v : Nat} {l : ByteArray} (hv : a[v]? = some l) (hl : (byt l).length ≤ 2000000) : ∀ (k j : Nat), j + k = (byt l).length → (¬ (10 : UInt8) ∈ (byt l).take j) →
    loopM (s_JournalOf_s2 a (v : Int)) (j : Int) = some (if (10 : UInt8) ∈ byt l then .inr (lit_99ba06bc, false) else .inl ())
  | 0, j, hj, hn => by
    have ha : at? a (v : Int) = some l := at?_of (by omega) (by rw [show (v : Int).toNat = v from by omega]; exact hv)
    rw [List.take_of_length_le (by omega)] at hn
    rw [if_neg hn, loopM_out (e := ())]
    show s_JournalOf_b2 a (v : Int) (j : Int) = _
    unfold s_JournalOf_b2
    rw [ha, obind_eq, siz, decide_eq_false (by omega), bsel_false]
  | k + 1, j, hj, hn => by
    have ha : at? a (v : Int) = some l := at?_of (by omega) (by rw [show (v : Int).toNat = v from by omega]; exact hv)
    obtain ⟨b, hb⟩ : ∃ b, (byt l)[j]? = some b := ⟨_, List.getElem?_eq_getElem (by omega)⟩
    by_cases h10 : b = 10
    · subst h10
      rw [if_pos (List.mem_of_getElem? hb), loopM_ret (r := (lit_99ba06bc, false))]
      show s_JournalOf_b2 a (v : Int) (j : Int) = _
      unfold s_JournalOf_b2
      rw [ha, obind_eq, siz, decide_eq_true (by omega), bsel_true, obind_eq, sat_mk hb, obind_eq, decide_eq_true (by rfl), bsel_true]
    · have hbn : b.toNat ≠ 10 := fun e => h10 (UInt8.toNat_inj.1 e)
      have st : s_JournalOf_s2 a (v : Int) (j : Int) = some (.next ((j + 1 : Nat) : Int)) := by
        show s_JournalOf_b2 a (v : Int) (j : Int) = _
        unfold s_JournalOf_b2
        rw [ha, obind_eq, siz, decide_eq_true (by omega), bsel_true, obind_eq, sat_mk hb, obind_eq, decide_eq_false (by omega), bsel_false, olet_eq, wi64 (by omega) (by omega)]
        rfl
      rw [loopM_next st]
      refine s_scan hv hl k (j + 1) (by omega) ?_
      rw [List.take_add_one, hb]
      simp only [Option.toList_some, List.mem_append, List.mem_singleton, not_or]
      exact ⟨hn, fun e => h10 e.symm⟩
theorem s_sums {a : List ByteArray} (ha : a.length ≤ 1048576) (hl : ∀ l ∈ a, (byt l).length ≤ 2000000) : ∀ (k j T : Nat), j + k = a.length → T ≤ 16000 →
    loopM (s_JournalOf_s3 a) ((T : Int), (j : Int)) = some (if no10 (a.drop j) = true ∧ T + sumJ (a.drop j) ≤ 16000 then .inl () else .inr (lit_99ba06bc, false))
  | 0, j, T, hj, hT => by
    have hd : a.drop j = [] := List.drop_eq_nil_of_le (by omega)
    rw [hd, if_pos ⟨rfl, by simp [sumJ]; exact hT⟩, loopM_out (e := ())]
    show s_JournalOf_b3 a (T : Int) (j : Int) = _
    unfold s_JournalOf_b3
    rw [decide_eq_false (by omega), bsel_false]
  | k + 1, j, T, hj, hT => by
    obtain ⟨l, hx⟩ : ∃ l, a[j]? = some l := ⟨_, List.getElem?_eq_getElem (by omega)⟩
    have hl0 := hl l (List.mem_of_getElem? hx)
    have hat : at? a (j : Int) = some l := at?_of (by omega) (by rw [show (j : Int).toNat = j from by omega]; exact hx)
    have sc : loopM (s_JournalOf_s2 a (j : Int)) 0 = _ := s_scan hx hl0 (byt l).length 0 (by omega) (by simp)
    have en : no10 (l :: a.drop (j + 1)) = (decide (¬ (10 : UInt8) ∈ byt l) && no10 (a.drop (j + 1))) := rfl
    have es : sumJ (l :: a.drop (j + 1)) = (byt l).length + 3 + sumJ (a.drop (j + 1)) := rfl
    rw [drop_at hx, en, es]
    have body : s_JournalOf_s3 a ((T : Int), (j : Int)) = if 16000 < T + ((byt l).length + 3) then some (.ret (lit_99ba06bc, false)) else if (10 : UInt8) ∈ byt l then some (.ret (lit_99ba06bc, false)) else some (.next (((T + ((byt l).length + 3) : Nat) : Int), ((j + 1 : Nat) : Int))) := by
      show s_JournalOf_b3 a (T : Int) (j : Int) = _
      unfold s_JournalOf_b3
      rw [decide_eq_true (by omega), bsel_true, hat, obind_eq, siz]
      simp only [olet_eq]
      rw [wi64 (n := ((byt l).length : Int) + 3) (by omega) (by omega), wi64 (by omega) (by omega)]
      by_cases hb : 16000 < T + ((byt l).length + 3)
      · rw [decide_eq_true (by omega), bsel_true, if_pos hb]
      · rw [decide_eq_false (by omega), bsel_false, if_neg hb, sc]
        by_cases h10 : (10 : UInt8) ∈ byt l
        · rw [if_pos h10, if_pos h10]; rfl
        · rw [if_neg h10, if_neg h10]
          simp only [obind_eq, osum]
          unfold s_JournalOf_k2
          rw [olet_eq, wi64 (by omega) (by omega)]
          rfl
    by_cases hb : 16000 < T + ((byt l).length + 3)
    · rw [if_pos hb] at body
      rw [loopM_ret body, if_neg (by omega)]
    · rw [if_neg hb] at body
      by_cases h10 : (10 : UInt8) ∈ byt l
      · rw [if_pos h10] at body
        rw [loopM_ret body, if_neg (by simp [h10])]
      · rw [if_neg h10] at body
        rw [loopM_next body, s_sums ha hl k (j + 1) _ (by omega) (by omega)]
        have e1 : T + ((byt l).length + 3) + sumJ (a.drop (j + 1)) = T + ((byt l).length + 3 + sumJ (a.drop (j + 1))) := by omega
        rw [e1]
        simp [h10]
theorem cats_byt {a : List UInt8} {l : ByteArray} (h : a.length + (byt l).length ≤ 1000000000) : cats? (mkS a) l = some (mkS (a ++ byt l)) := by
  have := cats_mk (a := a) (b := byt l) h
  rwa [mkS_byt] at this
theorem s_join {a : List ByteArray} (ha : a.length ≤ 1048576) (hl : ∀ l ∈ a, (byt l).length ≤ 2000000) : ∀ (k j : Nat) (c : Int) (t : List UInt8), j + k = a.length → 0 ≤ c → c < 65003 → t.length + sumJ (a.drop j) + 20 * k ≤ 900000000 →
    loopM (s_l08Journal_s1 a) (mkS t, c, (j : Int)) = some (.inl (mkS (t ++ jall c (a.drop j))))
  | 0, j, c, t, hj, h0, h1, ht => by
    have hd : a.drop j = [] := List.drop_eq_nil_of_le (by omega)
    rw [hd, loopM_out (e := mkS t)]
    · unfold jall; rw [List.append_nil]
    · show s_l08Journal_b1 a (mkS t) c (j : Int) = _
      unfold s_l08Journal_b1
      rw [decide_eq_false (by omega), bsel_false]
  | k + 1, j, c, t, hj, h0, h1, ht => by
    obtain ⟨l, hx⟩ : ∃ l, a[j]? = some l := ⟨_, List.getElem?_eq_getElem (by omega)⟩
    have hl0 := hl l (List.mem_of_getElem? hx)
    have hat : at? a (j : Int) = some l := at?_of (by omega) (by rw [show (j : Int).toNat = j from by omega]; exact hx)
    obtain ⟨k0, k1, k2⟩ := chk_eq hl0 h0 h1
    have hit := itoa_len (n := chkV c l) (by omega)
    have hjl := jl_len hl0 h0 h1
    rw [drop_at hx] at ht ⊢
    have es : sumJ (l :: a.drop (j + 1)) = (byt l).length + 3 + sumJ (a.drop (j + 1)) := rfl
    rw [es] at ht
    have st : s_l08Journal_s1 a (mkS t, c, (j : Int)) = some (.next (mkS (t ++ jl c l), chkV c l, ((j + 1 : Nat) : Int))) := by
      show s_l08Journal_b1 a (mkS t) c (j : Int) = _
      unfold s_l08Journal_b1
      rw [decide_eq_true (by omega), bsel_true, hat, obind_eq, k0, obind_eq, s_dec_eq (by omega), obind_eq, show lit_592437da = mkS [32] from rfl, cats_mk (by simp; omega), obind_eq, obind_eq, cats_byt (by simp; omega), obind_eq, show lit_e4a5378b = mkS [10] from rfl, cats_mk (by simp; omega), obind_eq, show Go.Lib.itoa (chkV c l) ++ [32] ++ byt l ++ [10] = jl c l from rfl, cats_mk (by omega), obind_eq, olet_eq, wi64 (by omega) (by omega)]
      rfl
    rw [loopM_next st, s_join ha hl k (j + 1) _ _ (by omega) k1 k2 (by rw [List.length_append]; omega)]
    rw [show jall c (l :: a.drop (j + 1)) = jl c l ++ jall (chkV c l) (a.drop (j + 1)) from rfl, List.append_assoc]
theorem JournalOf_val {a : List ByteArray} (ha : a.length ≤ 1048576) (hl : ∀ l ∈ a, (byt l).length ≤ 1048576) : ∃ z0 z1, s_JournalOf a = some (z0, z1) ∧ i_JournalOf a = some (z0, z1) := by
  have hl' : ∀ l ∈ a, (byt l).length ≤ 2000000 := fun l hx => by have := hl l hx; omega
  have i := jrun_eq a 0 ⟨#[]⟩ hl' (by decide) (by decide) (by decide)
  have e0 : byt ⟨#[]⟩ = [] := rfl
  rw [e0, List.nil_append] at i
  have s := s_sums ha hl' a.length 0 0 (by omega) (by omega)
  rw [List.drop_zero, Nat.zero_add] at s
  have s : loopM (s_JournalOf_s3 a) (0, 0) = _ := s
  have hle := sumJ_le a 0 hl' (by decide) (by decide)
  have ii : i_JournalOf a = jrun a 0 ⟨#[]⟩ := by unfold i_JournalOf; rw [decide_eq_true (by omega), need_true]
  rw [ii]
  unfold s_JournalOf
  rw [s]
  by_cases hc : no10 a = true ∧ sumJ a ≤ 16000
  · rw [if_pos hc]
    simp only [obind_eq, osum]
    have j := s_join ha hl' a.length 0 0 [] (by omega) (by decide) (by decide) (by rw [List.drop_zero]; simp; omega)
    rw [List.drop_zero, List.nil_append] at j
    have j : loopM (s_l08Journal_s1 a) (lit_99ba06bc, 0, 0) = some (.inl (mkS (jall 0 a))) := j
    unfold s_JournalOf_k3 s_l08Journal
    rw [j]
    simp only [obind_eq, osum]
    unfold s_l08Journal_k1
    rw [obind_eq, siz, byt_mk]
    by_cases hb : (jall 0 a).length ≤ 16000
    · rw [if_pos ⟨hc.1, hb⟩] at i
      rw [decide_eq_false (by omega), bsel_false]
      exact ⟨_, _, rfl, i⟩
    · rw [if_neg (fun h => hb h.2)] at i
      rw [decide_eq_true (by omega), bsel_true]
      exact ⟨_, _, rfl, i⟩
  · rw [if_neg (fun h => hc ⟨h.1, by omega⟩)] at i
    rw [if_neg hc]
    exact ⟨_, _, rfl, i⟩
theorem toS_eq (a : List ByteArray) (ha : a.length ≤ 1048576) : w_toStringS a = some a := by
  have key : ∀ (k j : Nat) (L : List ByteArray), j + k = a.length → L.length = a.length → L.take j = a.take j → loopM (w_toStringS_s1 a) (L, (j : Int)) = some (.inl a) := by
    intro k
    induction k with
    | zero =>
      intro j L hj hL ht
      have e : L = a := by rw [List.take_of_length_le (by omega), List.take_of_length_le (by omega)] at ht; exact ht
      subst e
      refine loopM_out ?_
      show w_toStringS_b1 L L (j : Int) = _
      unfold w_toStringS_b1
      rw [decide_eq_false (by omega), bsel_false]
    | succ k ih =>
      intro j L hj hL ht
      obtain ⟨x, hx⟩ : ∃ x, a[j]? = some x := ⟨_, List.getElem?_eq_getElem (by omega)⟩
      have st : w_toStringS_s1 a (L, (j : Int)) = some (.next (L.set j x, ((j + 1 : Nat) : Int))) := by
        show w_toStringS_b1 a L (j : Int) = _
        unfold w_toStringS_b1
        rw [decide_eq_true (by omega), bsel_true, at?_of (by omega) (by rw [show (j : Int).toNat = j from by omega]; exact hx), obind_eq, setAt?_of (by omega) (by rw [show (j : Int).toNat = j from by omega]; omega), obind_eq, olet_eq, wi64 (by omega) (by omega)]
        rfl
      rw [loopM_next st]
      refine ih (j + 1) _ (by omega) (by simp [hL]) ?_
      rw [List.take_add_one, List.take_add_one, hx, List.take_set_of_le (Nat.le_refl j), ht]
      congr 1
      rw [List.getElem?_set_self (by omega)]
  unfold w_toStringS
  rw [show mkok 16 (a.length : Int) = true from by simp only [mkok, Bool.and_eq_true, decide_eq_true_eq]; omega, need_true, show ((a.length : Nat) : Int).toNat = a.length from by omega]
  have k0 : loopM (w_toStringS_s1 a) (List.replicate a.length lit_99ba06bc, 0) = some (.inl a) := key a.length 0 _ (by omega) (by simp) (by simp)
  rw [k0]; rfl
theorem sz_loop {a : List ByteArray} (hg : ∀ z ∈ a, z.size ≤ maxLen) (ha : a.length ≤ 1048576) : ∀ (k j : Nat) (v : Int), j + k = a.length → 0 ≤ v → v ≤ 1048576 →
    ∃ r, loopM (w_szStringS_s1 a) (v, (j : Int)) = some r ∧ ((∃ w, r = .inl w ∧ 0 ≤ w ∧ ∀ l ∈ a.drop j, (byt l).length ≤ 1048576) ∨ r = .inr (-1))
  | 0, j, v, hj, h0, h1 => by
    refine ⟨_, loopM_out (e := v) ?_, .inl ⟨v, rfl, h0, fun l hx => by rw [List.drop_eq_nil_of_le (by omega)] at hx; simp at hx⟩⟩
    show w_szStringS_b1 a v (j : Int) = _
    unfold w_szStringS_b1
    rw [decide_eq_false (by omega), bsel_false]
  | k + 1, j, v, hj, h0, h1 => by
    obtain ⟨l, hx⟩ : ∃ l, a[j]? = some l := ⟨_, List.getElem?_eq_getElem (by omega)⟩
    have hat : at? a (j : Int) = some l := at?_of (by omega) (by rw [show (j : Int).toNat = j from by omega]; exact hx)
    have hm := hg l (List.mem_of_getElem? hx)
    have hmax : maxLen = 9223372036854775807 := rfl
    rw [siz] at hm
    have body : w_szStringS_s1 a (v, (j : Int)) = if v < ((byt l).length : Int) then some (.ret (-1)) else some (.next (v - ((byt l).length : Int), ((j + 1 : Nat) : Int))) := by
      show w_szStringS_b1 a v (j : Int) = _
      unfold w_szStringS_b1
      rw [decide_eq_true (by omega), bsel_true, hat, obind_eq, siz, wrap_i64 (by omega) (by omega), olet_eq]
      by_cases hb : v < ((byt l).length : Int)
      · rw [decide_eq_true (by omega), bsel_true, if_pos hb]
      · rw [decide_eq_false (by omega), bsel_false, if_neg hb, olet_eq, wi64 (by omega) (by omega)]
        rfl
    by_cases hb : v < ((byt l).length : Int)
    · rw [if_pos hb] at body
      exact ⟨_, loopM_ret body, .inr rfl⟩
    · rw [if_neg hb] at body
      obtain ⟨r, e, h⟩ := sz_loop hg ha k (j + 1) (v - ((byt l).length : Int)) (by omega) (by omega) (by omega)
      refine ⟨r, by rw [loopM_next body]; exact e, ?_⟩
      rcases h with ⟨w, hr, hw, hall⟩ | hr
      · refine .inl ⟨w, hr, hw, fun x hxm => ?_⟩
        rw [drop_at hx] at hxm
        rcases List.mem_cons.1 hxm with rfl | hxm
        · omega
        · exact hall x hxm
      · exact .inr hr
theorem w_FnExactJournalOf_true (a0 : List ByteArray) (t0 : a0.length ≤ maxLen) (g0 : ∀ z ∈ a0, z.size ≤ maxLen) : w_FnExactJournalOf a0 = some true := by
  have hmax : maxLen = 9223372036854775807 := rfl
  unfold w_FnExactJournalOf w_szStringS
  rw [wrap_i64 (by omega) (by omega), olet_eq]
  by_cases hneg : (1048576 : Int) < (a0.length : Int)
  · rw [decide_eq_true (by omega), bsel_true, obind_eq, show decide ((-1 : Int) < 0) = true from rfl, bsel_true]
  · have hlen : a0.length ≤ 1048576 := by omega
    rw [decide_eq_false (by omega), bsel_false]
    obtain ⟨r, e, h⟩ := sz_loop g0 hlen a0.length 0 (1048576 - (a0.length : Int)) (by omega) (by omega) (by omega)
    have e : loopM (w_szStringS_s1 a0) (1048576 - (a0.length : Int), 0) = some r := e
    rw [e]
    rcases h with ⟨w, rfl, hw, hall⟩ | rfl
    · rw [List.drop_zero] at hall
      obtain ⟨z0, z1, p1, p2⟩ := JournalOf_val hlen hall
      simp only [obind_eq, osum]
      unfold w_szStringS_k1
      rw [obind_eq, decide_eq_false (by omega), bsel_false, toS_eq a0 hlen, obind_eq, p1, obind2_eq, obind_eq, p2, obind2_eq, eqs_self, Bool.not_true, bsel_false]
      have ez : (!(z1 == z1)) = false := by cases z1 <;> rfl
      rw [ez, bsel_false, obind_eq, w_eqStringS_refl a0 hlen, obind_eq, bsel_true]
    · simp only [obind_eq, osum]
      rw [show decide ((-1 : Int) < 0) = true from rfl, bsel_true]


end Go.Proofs.YtbebfcolmdfopaaDoor
