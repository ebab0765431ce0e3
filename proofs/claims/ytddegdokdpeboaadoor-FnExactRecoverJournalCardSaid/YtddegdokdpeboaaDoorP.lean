/- The plain law of FnExactRecoverJournal. -/
import Derived.Test.YtddegdokdpeboaaDoorG0
namespace Go.Proofs.YtddegdokdpeboaaDoor
set_option linter.unusedSimpArgs false
set_option linter.unusedVariables false
open Go Go.AM
def FOks (l : List F) : Prop := ∀ c ∈ l, FOk .f32 c
def marks (k : Int) (n : Nat) : List F := (List.range n).map fun (i : Nat) => fint .f32 (k + (i : Int))
def marksI (k : Int) (n : Nat) : List Int := (List.range n).map fun (i : Nat) => k + (i : Int)
theorem marks_len (k : Int) (n : Nat) : (marks k n).length = n := by simp [marks]
theorem marksI_len (k : Int) (n : Nat) : (marksI k n).length = n := by simp [marksI]
theorem loop_mark {α ρ : Type} (mk : Int → α) (k : Int) (n : Nat) {step : List α × Int × Int → Option (LR (List α × Int × Int) (List α × Int) ρ)}
    (hstep : ∀ (L : List α) (i : Nat), i < n → L.length = n → step (L, k + (i : Int), (i : Int)) = some (.next (L.set i (mk (k + (i : Int))), k + ((i + 1 : Nat) : Int), ((i + 1 : Nat) : Int))))
    (hend : ∀ L : List α, L.length = n → step (L, k + (n : Int), (n : Int)) = some (.out (L, k + (n : Int)))) (a : List α) (ha : a.length = n) :
    loopM step (a, k, 0) = some (.inl ((List.range n).map (fun (i : Nat) => mk (k + (i : Int))), k + (n : Int))) := by
  have key : ∀ (m i : Nat) (L : List α), m + i = n → L.length = n → L.take i = (List.range i).map (fun (i : Nat) => mk (k + (i : Int))) → loopM step (L, k + (i : Int), (i : Int)) = some (.inl ((List.range n).map (fun (i : Nat) => mk (k + (i : Int))), k + (n : Int))) := by
    intro m
    induction m with
    | zero =>
      intro i L hi hL ht
      have : i = n := by omega
      subst this
      rw [loopM_out (hend L hL), ← ht, ← hL, List.take_length]
    | succ m ih =>
      intro i L hi hL ht
      rw [loopM_next (hstep L i (by omega) hL)]
      refine ih (i + 1) _ (by omega) (by simpa using hL) ?_
      rw [List.take_succ_eq_append_getElem (by simp; omega), List.take_set_of_le (Nat.le_refl _), ht, List.range_succ, List.map_append]
      simp
  have := key n 0 a (by omega) ha (by simp)
  simpa using this
theorem loop_held {k : Int} {n : Nat} {step : Int × Int → Option (LR (Int × Int) Int Int)}
    (hstep : ∀ i : Nat, i < n → step (k + (i : Int), (i : Int)) = some (.next (k + ((i + 1 : Nat) : Int), ((i + 1 : Nat) : Int)))) (hend : step (k + (n : Int), (n : Int)) = some (.out (k + (n : Int)))) :
    loopM step (k, 0) = some (.inl (k + (n : Int))) := by
  have key : ∀ (m i : Nat), m + i = n → loopM step (k + (i : Int), (i : Int)) = some (.inl (k + (n : Int))) := by
    intro m
    induction m with
    | zero => intro i hi; have : i = n := by omega
              subst this; exact loopM_out hend
    | succ m ih => intro i hi; rw [loopM_next (hstep i (by omega))]; exact ih (i + 1) (by omega)
  have := key n 0 (by omega)
  simpa using this
theorem FOks.set {l : List F} (h : FOks l) {n : Nat} {x : F} (hx : FOk .f32 x) : FOks (l.set n x) := by
  intro c hc
  rcases List.mem_or_eq_of_mem_set hc with h1 | h1
  · exact h c h1
  · exact h1 ▸ hx
def Names (n : Nat) (L : List Int) : Prop := ∀ x ∈ L, 0 ≤ x ∧ x < (n : Int)
theorem Names.set {n : Nat} {L : List Int} (h : Names n L) {j : Nat} {x : Int} (hx : 0 ≤ x ∧ x < (n : Int)) : Names n (L.set j x) := fun y hy => (List.mem_or_eq_of_mem_set hy).elim (fun k => h y k) (fun k => by rw [k]; exact hx)
def mkS (l : List UInt8) : ByteArray := ⟨l.toArray⟩
def byt (s : ByteArray) : List UInt8 := s.data.toList
theorem byt_mk (l : List UInt8) : byt (mkS l) = l := by simp [byt, mkS]
theorem mk_byt (s : ByteArray) : mkS (byt s) = s := Go.Lib.mk_data s
theorem siz (s : ByteArray) : s.size = (byt s).length := Go.Lib.size_eq s
theorem subs_mk {s : ByteArray} {i j : Nat} (h : i ≤ j) (h2 : j ≤ (byt s).length) : subs? s (i : Int) (j : Int) = some (mkS (((byt s).drop i).take (j - i))) := by
  unfold subs?
  rw [if_pos ⟨by omega, by omega, by rw [siz]; omega⟩]
  exact congrArg some (Go.Lib.extract_eq s i j)
theorem sat_mk {s : ByteArray} {i : Nat} {b : UInt8} (h : (byt s)[i]? = some b) : sat? s (i : Int) = some (b.toNat : Int) := by
  unfold sat?
  rw [if_pos (by omega)]
  have hi : i < s.size := by rw [siz]; exact (List.getElem?_eq_some_iff.1 h).1
  have e : s[(i : Int).toNat]? = some b := by
    rw [show (i : Int).toNat = i from by omega, getElem?_pos s i hi]
    have this : s.data.toList[i]? = some s[i] := by
      rw [Array.getElem?_toList]; exact getElem?_pos s.data i hi
    rw [show s.data.toList[i]? = some b from h] at this
    exact this.symm
  rw [e]; rfl
theorem eqs_iff {s t : ByteArray} : eqs s t = decide (byt s = byt t) := by
  unfold eqs byt
  rw [Bool.eq_iff_iff]; simp only [beq_iff_eq, decide_eq_true_eq]
def cutL (c : UInt8) : List UInt8 → List (List UInt8)
  | [] => [[]]
  | b :: l => if b = c then [] :: cutL c l else match cutL c l with
    | [] => [[b]]
    | h :: t => (b :: h) :: t
theorem cutL_none {c : UInt8} : ∀ {p : List UInt8}, c ∉ p → cutL c p = [p]
  | [], _ => rfl
  | b :: l, h => by
    have hb : b ≠ c := fun e => h (by simp [e])
    have hl : c ∉ l := fun e => h (by simp [e])
    unfold cutL
    rw [if_neg hb, cutL_none hl]
theorem cutL_hit {c : UInt8} {q : List UInt8} : ∀ {p : List UInt8}, c ∉ p → cutL c (p ++ c :: q) = p :: cutL c q
  | [], _ => by
    show cutL c (c :: q) = _
    conv => lhs; unfold cutL
    rw [if_pos rfl]
  | b :: l, h => by
    have hb : b ≠ c := fun e => h (by simp [e])
    have hl : c ∉ l := fun e => h (by simp [e])
    show cutL c (b :: (l ++ c :: q)) = _
    conv => lhs; unfold cutL
    rw [if_neg hb, cutL_hit hl]
theorem cutL_len {c : UInt8} : ∀ {l : List UInt8}, (cutL c l).length = l.count c + 1
  | [] => rfl
  | b :: l => by
    have ih := cutL_len (c := c) (l := l)
    unfold cutL
    by_cases hb : b = c
    · rw [if_pos hb, List.length_cons, ih, hb, List.count_cons_self]
    · rw [if_neg hb, List.count_cons_of_ne hb, ← ih]
      cases h : cutL c l with
      | nil => rw [h] at ih; simp at ih
      | cons x y => rfl
theorem idx_hit {c : UInt8} : ∀ {l : List UInt8}, c ∈ l → ∃ p q, l = p ++ c :: q ∧ c ∉ p ∧ Go.Lib.indexByte l c = (p.length : Int)
  | [], h => by simp at h
  | b :: l, h => by
    by_cases hb : b = c
    · exact ⟨[], l, by simp [hb], by simp, by unfold Go.Lib.indexByte; rw [if_pos (by simp [hb])]; rfl⟩
    · have hl : c ∈ l := by rcases List.mem_cons.1 h with e | e; exact absurd e.symm hb; exact e
      obtain ⟨p, q, e1, e2, e3⟩ := idx_hit hl
      refine ⟨b :: p, q, by simp [e1], by simp [e2, Ne.symm hb], ?_⟩
      unfold Go.Lib.indexByte
      rw [if_neg (by simp [hb]), e3, if_neg (by simp)]; simp
theorem idx_miss {c : UInt8} : ∀ {l : List UInt8}, c ∉ l → Go.Lib.indexByte l c = -1
  | [], _ => rfl
  | b :: l, h => by
    have hb : b ≠ c := fun e => h (by simp [e])
    have hl : c ∉ l := fun e => h (by simp [e])
    unfold Go.Lib.indexByte
    rw [if_neg (by simp [hb]), idx_miss hl]; rfl
theorem wi64 {n : Int} (h0 : -9000000000000000000 ≤ n) (h1 : n ≤ 9000000000000000000) : IntKind.i64.wrap n = n := wrap_i64 (by omega) (by omega)
theorem bytePiece {l : List UInt8} {i j : Nat} {b : UInt8} (hij : i ≤ j) (h : l[j]? = some b) : (l.drop i).take (j + 1 - i) = (l.drop i).take (j - i) ++ [b] := by
  rw [show j + 1 - i = (j - i) + 1 from by omega, List.take_add_one, List.getElem?_drop, show i + (j - i) = j from by omega, h]; rfl
theorem pieceDrop {l : List UInt8} {i j : Nat} (hij : i ≤ j) : l.drop i = (l.drop i).take (j - i) ++ l.drop j := by
  have := List.take_append_drop (j - i) (l.drop i)
  rw [List.drop_drop, show i + (j - i) = j from by omega] at this
  exact this.symm
theorem cut_loop {a0 : ByteArray} {c : UInt8} (hn : (byt a0).length ≤ 2000000) : ∀ (k i j : Nat) (L : List ByteArray), j + k = (byt a0).length → i ≤ j → L.length ≤ j → c ∉ ((byt a0).drop i).take (j - i) →
    loopM (s_l01Cut_s3 a0 (c.toNat : Int)) (L, (i : Int), (j : Int)) = some (.inl (L ++ (cutL c ((byt a0).drop i)).map mkS))
  | 0, i, j, L, hj, hij, hL, hc => by
    have ap : apok 16 L.length 1 = true := by simp only [apok, Bool.and_eq_true, decide_eq_true_eq]; omega
    have e : s_l01Cut_s3 a0 (c.toNat : Int) (L, (i : Int), (j : Int)) = some (.next (L ++ [mkS (((byt a0).drop i).take (j - i))], (j : Int) + 1, (j : Int) + 1)) := by
      show s_l01Cut_b3 a0 (c.toNat : Int) L (i : Int) (j : Int) = _
      unfold s_l01Cut_b3 s_l01Cut_k2
      rw [siz, decide_eq_true (by omega), bsel_true, decide_eq_true (by omega), bsel_true, subs_mk hij (by omega), obind_eq, ap, need_true]
      simp only [olet_eq]
      rw [wi64 (by omega) (by omega)]
    rw [loopM_next e, loopM_out (e := L ++ [mkS (((byt a0).drop i).take (j - i))])]
    · have hd : (byt a0).drop i = ((byt a0).drop i).take (j - i) := (List.take_of_length_le (by rw [List.length_drop]; omega)).symm
      have hc' : c ∉ (byt a0).drop i := by rw [hd]; exact hc
      rw [cutL_none hc', ← hd]; rfl
    · show s_l01Cut_b3 a0 (c.toNat : Int) _ ((j : Int) + 1) ((j : Int) + 1) = _
      unfold s_l01Cut_b3
      rw [siz, decide_eq_false (by omega), bsel_false]
  | k + 1, i, j, L, hj, hij, hL, hc => by
    have ap : apok 16 L.length 1 = true := by simp only [apok, Bool.and_eq_true, decide_eq_true_eq]; omega
    have hlt : j < (byt a0).length := by omega
    obtain ⟨b, hb⟩ : ∃ b, (byt a0)[j]? = some b := ⟨_, List.getElem?_eq_getElem hlt⟩
    by_cases hbc : b = c
    · have e : s_l01Cut_s3 a0 (c.toNat : Int) (L, (i : Int), (j : Int)) = some (.next (L ++ [mkS (((byt a0).drop i).take (j - i))], ((j + 1 : Nat) : Int), ((j + 1 : Nat) : Int))) := by
        show s_l01Cut_b3 a0 (c.toNat : Int) L (i : Int) (j : Int) = _
        unfold s_l01Cut_b3 s_l01Cut_k2
        rw [siz, decide_eq_true (by omega), bsel_true, decide_eq_false (by omega), bsel_false, sat_mk hb, obind_eq, hbc, decide_eq_true rfl, bsel_true, subs_mk hij (by omega), obind_eq, ap, need_true]
        simp only [olet_eq]
        rw [wi64 (by omega) (by omega)]; rfl
      rw [loopM_next e, cut_loop hn k (j + 1) (j + 1) _ (by omega) (Nat.le_refl _) (by simp; omega) (by simp)]
      have hd : (byt a0).drop i = ((byt a0).drop i).take (j - i) ++ c :: (byt a0).drop (j + 1) := by
        conv => lhs; rw [pieceDrop hij]
        rw [List.drop_eq_getElem_cons hlt]
        have : (byt a0)[j] = c := by rw [List.getElem?_eq_getElem hlt] at hb; rw [Option.some.inj hb, hbc]
        rw [this]
      conv => rhs; rw [hd, cutL_hit hc]
      simp
    · have hne : ¬ ((b.toNat : Int) = (c.toNat : Int)) := fun e => hbc (UInt8.toNat_inj.1 (by omega))
      have e : s_l01Cut_s3 a0 (c.toNat : Int) (L, (i : Int), (j : Int)) = some (.next (L, (i : Int), ((j + 1 : Nat) : Int))) := by
        show s_l01Cut_b3 a0 (c.toNat : Int) L (i : Int) (j : Int) = _
        unfold s_l01Cut_b3 s_l01Cut_k2
        rw [siz, decide_eq_true (by omega), bsel_true, decide_eq_false (by omega), bsel_false, sat_mk hb, obind_eq, decide_eq_false hne, bsel_false]
        simp only [olet_eq]
        rw [wi64 (by omega) (by omega)]; rfl
      rw [loopM_next e, cut_loop hn k i (j + 1) L (by omega) (by omega) (by omega) (by
        rw [bytePiece hij hb]
        simp only [List.mem_append, List.mem_singleton, not_or]
        exact ⟨hc, fun e => hbc e.symm⟩)]
theorem s_cut_eq {a0 : ByteArray} {c : UInt8} (hn : (byt a0).length ≤ 2000000) : s_l01Cut a0 (c.toNat : Int) = some ((cutL c (byt a0)).map mkS) := by
  unfold s_l01Cut
  have e := cut_loop (c := c) hn (byt a0).length 0 0 [] (by omega) (Nat.le_refl _) (Nat.le_refl _) (by simp)
  have e : loopM (s_l01Cut_s3 a0 (c.toNat : Int)) ([], 0, 0) = some (.inl ([] ++ (cutL c ((byt a0).drop 0)).map mkS)) := e
  rw [e]; rfl
theorem sub_init {α : Type} {l : List α} {n : Nat} (h : l.length = n + 1) : sub? l 0 (n : Int) = some (l.take n) := by
  unfold sub?
  rw [if_pos ⟨by omega, by omega, by omega⟩]; simp
theorem natAbs_digit (v : Int) (hv : v.natAbs ≤ 9223372036854775808) : (v.tmod 10 < 0 → IntKind.i64.wrap (0 - v.tmod 10) = ((v.natAbs % 10 : Nat) : Int)) ∧ (¬ v.tmod 10 < 0 → v.tmod 10 = ((v.natAbs % 10 : Nat) : Int)) := by
  have h : (v.tmod 10).natAbs = v.natAbs % 10 := Int.natAbs_tmod v 10
  have h9 : v.natAbs % 10 < 10 := Nat.mod_lt _ (by decide)
  constructor
  · intro hn
    rw [wi64 (by omega) (by omega)]; omega
  · intro hn; omega
theorem natAbs_next (v : Int) : (v.tdiv 10).natAbs = v.natAbs / 10 := Int.natAbs_tdiv v 10
theorem u8_wrap {n : Int} (h0 : 0 ≤ n) (h1 : n < 256) : IntKind.u8.wrap n = n := by
  simp only [IntKind.wrap, IntKind.bits, IntKind.signed]
  simp
  omega
def decI (u : Nat) : List Int := (Go.Lib.decDigits u).map fun b => (b.toNat : Int)
def digI (u : Nat) : List Int := if u = 0 then [] else decI u
theorem decI_small {u : Nat} (h : u < 10) : decI u = [((48 + u : Nat) : Int)] := by
  unfold decI
  rw [Go.Lib.decDigits, dif_pos h]
  have : (UInt8.ofNat (48 + u)).toNat = 48 + u := by simp; omega
  show [((UInt8.ofNat (48 + u)).toNat : Int)] = _
  rw [this]
theorem decI_big {u : Nat} (h : ¬ u < 10) : decI u = decI (u / 10) ++ [((48 + u % 10 : Nat) : Int)] := by
  unfold decI
  conv => lhs; rw [Go.Lib.decDigits, dif_neg h]
  have : (UInt8.ofNat (48 + u % 10)).toNat = 48 + u % 10 := by simp; omega
  rw [List.map_append]
  show _ ++ [((UInt8.ofNat (48 + u % 10)).toNat : Int)] = _
  rw [this]
theorem digI_step {u : Nat} : decI u = digI (u / 10) ++ [((48 + u % 10 : Nat) : Int)] := by
  by_cases h : u < 10
  · rw [decI_small h, show u / 10 = 0 from by omega, show u % 10 = u from by omega]; rfl
  · rw [decI_big h]
    unfold digI
    rw [if_neg (by omega)]
theorem dec_step {l : List Int} {v : Int} (hl : l.length ≤ 100) (hv : v.natAbs ≤ 9223372036854775808) : s_l01Dec_k5 l v = some (.next (((48 + v.natAbs % 10 : Nat) : Int) :: l, v.tdiv 10)) := by
  obtain ⟨d1, d2⟩ := natAbs_digit v hv
  have h9 : v.natAbs % 10 < 10 := Nat.mod_lt _ (by decide)
  have hn := natAbs_next v
  have key : s_l01Dec_k6 l v ((v.natAbs % 10 : Nat) : Int) = some (.next (((48 + v.natAbs % 10 : Nat) : Int) :: l, v.tdiv 10)) := by
    unfold s_l01Dec_k6
    simp only [olet_eq]
    rw [wi64 (n := 48 + ((v.natAbs % 10 : Nat) : Int)) (by omega) (by omega), u8_wrap (by omega) (by omega), show apok 1 1 l.length = true from by simp only [apok, Bool.and_eq_true, decide_eq_true_eq]; omega, need_true, show (!decide (10 = 0)) = true from rfl, need_true, wi64 (by omega) (by omega)]
    simp
  unfold s_l01Dec_k5
  rw [show (!decide (10 = 0)) = true from rfl, need_true]
  simp only [olet_eq]
  by_cases h : v.tmod 10 < 0
  · rw [decide_eq_true h, bsel_true, d1 h, key]
  · rw [decide_eq_false h, bsel_false, d2 h, key]
theorem dec_loop : ∀ (k : Nat) (v : Int) (l : List Int), v.natAbs < 10 ^ k → v.natAbs ≤ 9223372036854775808 → 0 < l.length → l.length + k ≤ 100 → loopM s_l01Dec_s7 (l, v) = some (.inl (digI v.natAbs ++ l))
  | 0, v, l, h, _, hl, hk => by
    have hv : v.natAbs = 0 := by simpa using h
    have hv0 : v = 0 := by omega
    rw [loopM_out (e := l)]
    · rw [hv]; rfl
    · show s_l01Dec_b7 l v = _
      unfold s_l01Dec_b7
      rw [decide_eq_false (by omega), bsel_false, hv0]; rfl
  | k + 1, v, l, h, h64, hl, hk => by
    by_cases hv0 : v = 0
    · subst hv0
      rw [loopM_out (e := l)]
      · rfl
      · show s_l01Dec_b7 l 0 = _
        unfold s_l01Dec_b7
        rw [decide_eq_false (by omega), bsel_false]; rfl
    · have e : s_l01Dec_s7 (l, v) = some (.next (((48 + v.natAbs % 10 : Nat) : Int) :: l, v.tdiv 10)) := by
        show s_l01Dec_b7 l v = _
        unfold s_l01Dec_b7
        rw [decide_eq_false (by omega), bsel_false, decide_eq_false hv0, Bool.not_false, bsel_true, dec_step (by omega) h64]
      rw [loopM_next e, dec_loop k _ _ (by rw [natAbs_next]; rw [Nat.pow_succ] at h; omega) (by rw [natAbs_next]; omega) (by simp) (by simp; omega), natAbs_next]
      have : digI v.natAbs = decI v.natAbs := by unfold digI; rw [if_neg (by omega)]
      rw [this, digI_step]; simp
theorem str_decI (u : Nat) : (decI u).map (fun n => UInt8.ofNat n.toNat) = Go.Lib.decDigits u := by
  unfold decI
  rw [List.map_map]
  conv => rhs; rw [← List.map_id (Go.Lib.decDigits u)]
  exact List.map_congr_left fun b _ => by simp
theorem decI_len (u : Nat) (h : u < 10 ^ 20) : (decI u).length ≤ 20 := by
  have key : ∀ (k u : Nat), u < 10 ^ (k + 1) → (decI u).length ≤ k + 1 := by
    intro k
    induction k with
    | zero => intro u h; rw [decI_small (by simpa using h)]; simp
    | succ k ih =>
      intro u h
      by_cases hs : u < 10
      · rw [decI_small hs]; simp
      · rw [decI_big hs]
        have := ih (u / 10) (by rw [Nat.pow_succ] at h; omega)
        simp; omega
  exact key 19 u h
theorem s_dec_eq {n : Int} (h : n.natAbs ≤ 9223372036854775808) : s_l01Dec n = some (mkS (Go.Lib.itoa n)) := by
  have h20 : n.natAbs < 10 ^ 20 := by have : (9223372036854775808 : Nat) < 10 ^ 20 := by decide
                                      omega
  have e : s_l01Dec_s7 ([], n) = some (.next ([((48 + n.natAbs % 10 : Nat) : Int)], n.tdiv 10)) := by
    show s_l01Dec_b7 [] n = _
    unfold s_l01Dec_b7
    rw [show decide ((([] : List Int).length : Int) = 0) = true from rfl, bsel_true, dec_step (by simp) h]
  have l2 : loopM s_l01Dec_s7 ([], n) = some (.inl (decI n.natAbs)) := by
    rw [loopM_next e, dec_loop 20 _ _ (by rw [natAbs_next]; omega) (by rw [natAbs_next]; omega) (by simp) (by simp), natAbs_next, digI_step]
  have hd := decI_len n.natAbs h20
  unfold s_l01Dec
  rw [l2]
  show s_l01Dec_k7 n (decI n.natAbs) = _
  unfold s_l01Dec_k7 s_l01Dec_k8
  by_cases hn : n < 0
  · rw [decide_eq_true hn, bsel_true, show apok 1 1 (decI n.natAbs).length = true from by simp only [apok, Bool.and_eq_true, decide_eq_true_eq]; omega, need_true]
    unfold Go.Lib.itoa
    rw [if_pos hn]
    unfold strOfNums mkS
    rw [List.map_append, str_decI]; rfl
  · rw [decide_eq_false hn, bsel_false]
    unfold Go.Lib.itoa
    rw [if_neg hn]
    unfold strOfNums mkS
    rw [str_decI, show n.natAbs = n.toNat from by omega]
theorem i_dec_eq {n : Int} (h0 : -9223372036854775808 ≤ n) (h1 : n ≤ 9223372036854775807) : i_Decimal n = some (mkS (Go.Lib.itoa n)) := by
  unfold i_Decimal x_strconv_FormatInt
  rw [show decide ((10 : Int) = 10) = true from rfl, need_true, decide_eq_true h0, need_true, decide_eq_true h1, need_true]; rfl
theorem chk_loop (s : ByteArray) (hs : (byt s).length ≤ 2000000) : ∀ (k j : Nat) (c : Int), j + k = (byt s).length → 0 ≤ c → c < 65003 → ∃ z, loopM (s_l01Check_s1 s) (c, (j : Int)) = some (.inl z) ∧ 0 ≤ z ∧ z < 65003
  | 0, j, c, hj, h0, h1 => ⟨c, loopM_out (by
      show s_l01Check_b1 s c (j : Int) = _
      unfold s_l01Check_b1
      rw [siz, decide_eq_false (by omega), bsel_false]), h0, h1⟩
  | k + 1, j, c, hj, h0, h1 => by
    obtain ⟨b, hb⟩ : ∃ b, (byt s)[j]? = some b := ⟨_, List.getElem?_eq_getElem (by omega)⟩
    have hb2 : b.toNat < 256 := b.toNat_lt
    have e : s_l01Check_s1 s (c, (j : Int)) = some (.next ((863 * c + (b.toNat : Int) + 157).tmod 65003, ((j + 1 : Nat) : Int))) := by
      show s_l01Check_b1 s c (j : Int) = _
      unfold s_l01Check_b1
      rw [siz, decide_eq_true (by omega), bsel_true, sat_mk hb]
      simp only [olet_eq, obind_eq]
      rw [wi64 (n := 863 * c) (by omega) (by omega), wi64 (n := (b.toNat : Int)) (by omega) (by omega), wi64 (n := 863 * c + (b.toNat : Int)) (by omega) (by omega), wi64 (n := 863 * c + (b.toNat : Int) + 157) (by omega) (by omega), show (!decide (65003 = 0)) = true from rfl, need_true, wi64 (by omega) (by omega)]; rfl
    rw [loopM_next e]
    have ht : (863 * c + (b.toNat : Int) + 157).tmod 65003 = (863 * c + (b.toNat : Int) + 157) % 65003 := Int.tmod_eq_emod_of_nonneg (by omega)
    exact chk_loop s hs k (j + 1) _ (by omega) (by omega) (by omega)
noncomputable def chkV (c : Int) (s : ByteArray) : Int := (s_l01Check c s).getD 0
theorem chk_eq {c : Int} {s : ByteArray} (hs : (byt s).length ≤ 2000000) (h0 : 0 ≤ c) (h1 : c < 65003) : s_l01Check c s = some (chkV c s) ∧ 0 ≤ chkV c s ∧ chkV c s < 65003 := by
  obtain ⟨z, e, h2, h3⟩ := chk_loop s hs (byt s).length 0 c (by omega) h0 h1
  have e1 : s_l01Check c s = some z := by
    unfold s_l01Check
    have e : loopM (s_l01Check_s1 s) (c, 0) = some (.inl z) := e
    rw [e]; rfl
  have e2 : chkV c s = z := by unfold chkV; rw [e1]; rfl
  rw [e2]; exact ⟨e1, h2, h3⟩
theorem checkOf_is (c : Int) (s : ByteArray) : i_checkOf c s = s_l01Check c s := rfl
theorem idx_at {c : UInt8} {q : List UInt8} : ∀ {p : List UInt8}, c ∉ p → Go.Lib.indexByte (p ++ c :: q) c = (p.length : Int)
  | [], _ => by
    show Go.Lib.indexByte (c :: q) c = _
    unfold Go.Lib.indexByte
    rw [if_pos (by simp)]; rfl
  | b :: l, h => by
    have hb : b ≠ c := fun e => h (by simp [e])
    have hl : c ∉ l := fun e => h (by simp [e])
    show Go.Lib.indexByte (b :: (l ++ c :: q)) c = _
    unfold Go.Lib.indexByte
    rw [if_neg (by simp [hb]), idx_at hl, if_neg (by simp)]; simp
theorem x_index_one {s sep : ByteArray} {b : UInt8} (h1 : byt sep = [b]) : x_internal_stringslite_Index s sep = some (Go.Lib.indexByte (byt s) b) := by
  have hz : (sep.size : Int) = 1 := by rw [siz, h1]; rfl
  unfold x_internal_stringslite_Index
  rw [hz, decide_eq_false (by omega), bsel_false, eqs_iff]
  by_cases h : byt sep = byt s
  · rw [decide_eq_true h, bsel_true, ← h, h1]
    have := idx_at (c := b) (q := []) (p := []) (by simp)
    exact congrArg some this.symm
  · rw [decide_eq_false h, bsel_false, decide_eq_true rfl, bsel_true]
    have hs : sat? sep 0 = some (b.toNat : Int) := sat_mk (i := 0) (by rw [h1]; rfl)
    rw [hs, obind_eq]
    unfold x_internal_stringslite_IndexByte idxB
    rw [obind_eq, show ((b.toNat : Int)).toNat.toUInt8 = b from by simp]; rfl
theorem cut_hit {s sep : ByteArray} {b : UInt8} (h1 : byt sep = [b]) {p q : List UInt8} (e : byt s = p ++ b :: q) (hp : b ∉ p) (hs : (byt s).length ≤ 3000000) : x_strings_Cut s sep = some (mkS p, mkS q, true) := by
  have hl : (byt s).length = p.length + 1 + q.length := by rw [e]; simp; omega
  have hz : (sep.size : Int) = 1 := by rw [siz, h1]; rfl
  have k1 : subs? s 0 ((p.length : Nat) : Int) = some (mkS p) := by
    have := subs_mk (s := s) (i := 0) (j := p.length) (by omega) (by omega)
    rw [show ((0 : Nat) : Int) = 0 from rfl] at this
    rw [this, List.drop_zero, e]; simp
  have k2 : subs? s ((p.length : Int) + 1) (s.size : Int) = some (mkS q) := by
    have := subs_mk (s := s) (i := p.length + 1) (j := (byt s).length) (by omega) (by omega)
    rw [siz, show ((p.length : Int) + 1) = ((p.length + 1 : Nat) : Int) from by omega, this, e]
    have d : (p ++ b :: q).drop (p.length + 1) = q := by simp [List.drop_append]
    rw [d, List.take_of_length_le (by simp; omega)]
  unfold x_strings_Cut x_internal_stringslite_Cut
  rw [x_index_one h1, obind_eq, e, idx_at hp, decide_eq_true (by omega), bsel_true, k1, obind_eq]
  simp only [olet_eq]
  rw [hz, wi64 (by omega) (by omega), k2, obind_eq, obind3_eq]
theorem cut_miss {s sep : ByteArray} {b : UInt8} (h1 : byt sep = [b]) (h : b ∉ byt s) : x_strings_Cut s sep = some (s, lit_99ba06bc, false) := by
  unfold x_strings_Cut x_internal_stringslite_Cut
  rw [x_index_one h1, obind_eq, idx_miss h, decide_eq_false (by omega), bsel_false, obind3_eq]
def spl : List UInt8 → Option (List UInt8 × List UInt8)
  | [] => none
  | b :: l => if b = 32 then some ([], l) else (spl l).map fun p => (b :: p.1, p.2)
theorem spl_none : ∀ {e : List UInt8}, 32 ∉ e → spl e = none
  | [], _ => rfl
  | b :: l, h => by
    have hb : b ≠ 32 := fun e => h (by simp [e])
    have hl : 32 ∉ l := fun e => h (by simp [e])
    unfold spl
    rw [if_neg hb, spl_none hl]; rfl
theorem spl_hit {q : List UInt8} : ∀ {p : List UInt8}, 32 ∉ p → spl (p ++ 32 :: q) = some (p, q)
  | [], _ => by
    show spl (32 :: q) = _
    unfold spl
    rw [if_pos rfl]
  | b :: l, h => by
    have hb : b ≠ 32 := fun e => h (by simp [e])
    have hl : 32 ∉ l := fun e => h (by simp [e])
    show spl (b :: (l ++ 32 :: q)) = _
    unfold spl
    rw [if_neg hb, spl_hit hl]; rfl
theorem has_split {c : UInt8} {l : List UInt8} (h : c ∈ l) : ∃ p q, l = p ++ c :: q ∧ c ∉ p := by
  obtain ⟨p, q, e1, e2, _⟩ := idx_hit h
  exact ⟨p, q, e1, e2⟩
noncomputable def recJ : List (List UInt8) → Int → List ByteArray → Int → Int × List ByteArray
  | [], _, L, n => (n, L)
  | e :: M, c, L, n => match spl e with
    | none => (n, L)
    | some p => if p.1 = Go.Lib.itoa (chkV c (mkS p.2)) then recJ M (chkV c (mkS p.2)) (L ++ [mkS p.2]) (n + ((e.length : Int) + 1)) else (n, L)
theorem recJ_none {e : List UInt8} {M : List (List UInt8)} {c : Int} {L : List ByteArray} {n : Int} (h : spl e = none) : recJ (e :: M) c L n = (n, L) := by
  unfold recJ; rw [h]
theorem recJ_no {e : List UInt8} {M : List (List UInt8)} {c : Int} {L : List ByteArray} {n : Int} {p q : List UInt8} (h : spl e = some (p, q)) (hp : ¬ p = Go.Lib.itoa (chkV c (mkS q))) : recJ (e :: M) c L n = (n, L) := by
  unfold recJ; rw [h]; simp only; rw [if_neg hp]
theorem recJ_yes {e : List UInt8} {M : List (List UInt8)} {c : Int} {L : List ByteArray} {n : Int} {p q : List UInt8} (h : spl e = some (p, q)) (hp : p = Go.Lib.itoa (chkV c (mkS q))) : recJ (e :: M) c L n = recJ M (chkV c (mkS q)) (L ++ [mkS q]) (n + ((e.length : Int) + 1)) := by
  conv => lhs; unfold recJ
  rw [h]; simp only; rw [if_pos hp]
theorem recJ_len : ∀ (M : List (List UInt8)) (c : Int) (L : List ByteArray) (n : Int), (recJ M c L n).2.length ≤ L.length + M.length
  | [], c, L, n => by unfold recJ; simp
  | e :: M, c, L, n => by
    cases h : spl e with
    | none => rw [recJ_none h]; simp
    | some p =>
      obtain ⟨p, q⟩ := p
      by_cases hp : p = Go.Lib.itoa (chkV c (mkS q))
      · rw [recJ_yes h hp]
        have := recJ_len M (chkV c (mkS q)) (L ++ [mkS q]) (n + ((e.length : Int) + 1))
        simp at this ⊢; omega
      · rw [recJ_no h hp]; simp
def lnsL (T : List UInt8) : List (List UInt8) := (cutL 10 T).take (T.count 10)
theorem lnsL_none {T : List UInt8} (h : 10 ∉ T) : lnsL T = [] := by
  unfold lnsL; rw [List.count_eq_zero.2 h]; simp
theorem lnsL_hit {p q : List UInt8} (h : 10 ∉ p) : lnsL (p ++ 10 :: q) = p :: lnsL q := by
  unfold lnsL
  rw [cutL_hit h, List.count_append, List.count_cons_self, List.count_eq_zero.2 h, Nat.zero_add, List.take_succ_cons]
def totL (M : List (List UInt8)) : Nat := (M.map fun e => e.length + 1).sum
theorem totL_cons (e : List UInt8) (M : List (List UInt8)) : totL (e :: M) = e.length + 1 + totL M := by unfold totL; simp
theorem tot_le : ∀ (k : Nat) (T : List UInt8), T.count 10 = k → totL (lnsL T) ≤ T.length
  | 0, T, h => by rw [lnsL_none (List.count_eq_zero.1 h)]; exact Nat.zero_le _
  | k + 1, T, h => by
    obtain ⟨p, q, rfl, hp⟩ := has_split (c := 10) (l := T) (List.count_pos_iff.1 (by omega))
    have hq : q.count 10 = k := by rw [List.count_append, List.count_cons_self, List.count_eq_zero.2 hp] at h; omega
    rw [lnsL_hit hp]
    have := tot_le k q hq
    rw [totL_cons]
    simp; omega
theorem sp_next {R : List ByteArray} {i : Int} {e : List UInt8} (hi : at? R i = some (mkS e)) {j : Nat} {b : UInt8} (hb : e[j]? = some b) (hne : b ≠ 32) (hl : e.length ≤ 3000000) : s_l08Recover_s2 R i (j : Int) = some (.next ((j + 1 : Nat) : Int)) := by
  have hj := lt_of_getElem? hb
  have hne2 : ¬ ((b.toNat : Int) = 32) := fun h => hne (UInt8.toNat_inj.1 (by have : (32 : UInt8).toNat = 32 := rfl
                                                                              omega))
  show s_l08Recover_b2 R i (j : Int) = _
  unfold s_l08Recover_b2
  rw [hi, obind_eq, siz, byt_mk, decide_eq_true (by omega), bsel_true, obind_eq, sat_mk (by rw [byt_mk]; exact hb), obind_eq, decide_eq_false hne2, Bool.not_false, bsel_true]
  simp only [olet_eq]
  rw [wi64 (by omega) (by omega)]; rfl
theorem sp_miss {R : List ByteArray} {i : Int} {e : List UInt8} (hi : at? R i = some (mkS e)) (h : 32 ∉ e) (hl : e.length ≤ 3000000) : ∀ (k j : Nat), j + k = e.length → loopM (s_l08Recover_s2 R i) (j : Int) = some (.inl (e.length : Int))
  | 0, j, hj => by
    rw [loopM_out (e := (j : Int)), show j = e.length from by omega]
    show s_l08Recover_b2 R i (j : Int) = _
    unfold s_l08Recover_b2
    rw [hi, obind_eq, siz, byt_mk, decide_eq_false (by omega), bsel_false]
  | k + 1, j, hj => by
    obtain ⟨b, hb⟩ : ∃ b, e[j]? = some b := ⟨_, List.getElem?_eq_getElem (by omega)⟩
    rw [loopM_next (sp_next hi hb (fun q => h (by rw [← q]; exact List.mem_of_getElem? hb)) hl)]
    exact sp_miss hi h hl k (j + 1) (by omega)
theorem sp_hit {R : List ByteArray} {i : Int} {p q : List UInt8} (hi : at? R i = some (mkS (p ++ 32 :: q))) (h : 32 ∉ p) (hl : (p ++ 32 :: q).length ≤ 3000000) : ∀ (k j : Nat), j + k = p.length → loopM (s_l08Recover_s2 R i) (j : Int) = some (.inl (p.length : Int))
  | 0, j, hj => by
    rw [loopM_out (e := (j : Int)), show j = p.length from by omega]
    have hb : (p ++ 32 :: q)[j]? = some 32 := by rw [show j = p.length from by omega]; simp
    have hlt := lt_of_getElem? hb
    show s_l08Recover_b2 R i (j : Int) = _
    unfold s_l08Recover_b2
    rw [hi, obind_eq, siz, byt_mk, decide_eq_true (by omega), bsel_true, obind_eq, sat_mk (by rw [byt_mk]; exact hb), obind_eq]; rfl
  | k + 1, j, hj => by
    obtain ⟨b, hb⟩ : ∃ b, p[j]? = some b := ⟨_, List.getElem?_eq_getElem (by omega)⟩
    have hb2 : (p ++ 32 :: q)[j]? = some b := by rw [List.getElem?_append_left (by omega)]; exact hb
    rw [loopM_next (sp_next hi hb2 (fun q => h (by rw [← q]; exact List.mem_of_getElem? hb)) hl)]
    exact sp_hit hi h hl k (j + 1) (by omega)
theorem rec_s {M : List (List UInt8)} (hM : M.length ≤ 2000000) : ∀ (k i : Nat) (c : Int) (L : List ByteArray) (n : Nat), i + k = M.length → 0 ≤ c → c < 65003 → L.length ≤ i → n + totL (M.drop i) ≤ 2000000 →
    loopM (s_l08Recover_s3 (M.map mkS)) (L, c, (n : Int), (i : Int)) = some (.inl ((recJ (M.drop i) c L n).2, (recJ (M.drop i) c L n).1))
  | 0, i, c, L, n, hi, h0, h1, hL, ht => by
    have hd : M.drop i = [] := List.drop_eq_nil_of_le (by omega)
    rw [hd]
    refine loopM_out ?_
    show s_l08Recover_b3 (M.map mkS) L c (n : Int) (i : Int) = _
    unfold s_l08Recover_b3
    rw [List.length_map, decide_eq_false (by omega), bsel_false]; rfl
  | k + 1, i, c, L, n, hi, h0, h1, hL, ht => by
    have hlt : i < M.length := by omega
    obtain ⟨e, he⟩ : ∃ e, M[i]? = some e := ⟨_, List.getElem?_eq_getElem hlt⟩
    have hd : M.drop i = e :: M.drop (i + 1) := by
      rw [List.drop_eq_getElem_cons hlt]
      rw [List.getElem?_eq_getElem hlt] at he
      rw [Option.some.inj he]
    rw [hd] at ht
    have hel : n + e.length + 1 + totL (M.drop (i + 1)) ≤ 2000000 := by rw [totL_cons] at ht; omega
    have ha : at? (M.map mkS) (i : Int) = some (mkS e) := at?_of (by omega) (by rw [show (i : Int).toNat = i from by omega, List.getElem?_map, he]; rfl)
    rw [hd]
    by_cases hsp : 32 ∈ e
    · obtain ⟨p, q, rfl, hp⟩ := has_split hsp
      have hlen : (p ++ 32 :: q).length = p.length + 1 + q.length := by simp; omega
      have hq : (byt (mkS q)).length ≤ 2000000 := by rw [byt_mk]; omega
      obtain ⟨c1, c2, c3⟩ := chk_eq hq h0 h1
      have inner : loopM (s_l08Recover_s2 (M.map mkS) (i : Int)) 0 = some (.inl (p.length : Int)) := sp_hit ha hp (by omega) p.length 0 (by omega)
      have k1 : subs? (mkS (p ++ 32 :: q)) 0 ((p.length : Nat) : Int) = some (mkS p) := by
        have := subs_mk (s := mkS (p ++ 32 :: q)) (i := 0) (j := p.length) (by omega) (by rw [byt_mk]; omega)
        rw [show ((0 : Nat) : Int) = 0 from rfl] at this
        rw [this, List.drop_zero, byt_mk]; simp
      have hsz : ((mkS (p ++ 32 :: q)).size : Int) = ((p ++ 32 :: q).length : Int) := by rw [siz, byt_mk]
      have k2 : subs? (mkS (p ++ 32 :: q)) ((p.length : Int) + 1) ((p ++ 32 :: q).length : Int) = some (mkS q) := by
        have := subs_mk (s := mkS (p ++ 32 :: q)) (i := p.length + 1) (j := (p ++ 32 :: q).length) (by omega) (by rw [byt_mk]; omega)
        rw [show ((p.length : Int) + 1) = ((p.length + 1 : Nat) : Int) from by omega, this, byt_mk]
        have d : (p ++ 32 :: q).drop (p.length + 1) = q := by simp [List.drop_append]
        rw [d, List.take_of_length_le (by omega)]
      have body : s_l08Recover_s3 (M.map mkS) (L, c, (n : Int), (i : Int)) = if p = Go.Lib.itoa (chkV c (mkS q)) then some (.next (L ++ [mkS q], chkV c (mkS q), ((n + ((p ++ 32 :: q).length + 1) : Nat) : Int), ((i + 1 : Nat) : Int))) else some (.out (L, (n : Int))) := by
        show s_l08Recover_b3 (M.map mkS) L c (n : Int) (i : Int) = _
        unfold s_l08Recover_b3
        rw [List.length_map, decide_eq_true (by omega), bsel_true, inner, obind_eq]
        show s_l08Recover_k2 (M.map mkS) L c (n : Int) (i : Int) (p.length : Int) = _
        unfold s_l08Recover_k2
        rw [ha, obind_eq, hsz, decide_eq_false (by omega), bsel_false, obind_eq, hsz]
        simp only [olet_eq]
        rw [wi64 (n := (p.length : Int) + 1) (by omega) (by omega), k2, obind_eq, c1, obind_eq, obind_eq, k1, obind_eq, s_dec_eq (by omega), obind_eq, eqs_iff, byt_mk, byt_mk]
        by_cases hpe : p = Go.Lib.itoa (chkV c (mkS q))
        · rw [decide_eq_true hpe, Bool.not_true, bsel_false, if_pos hpe, show apok 16 L.length 1 = true from by simp only [apok, Bool.and_eq_true, decide_eq_true_eq]; omega, need_true, obind_eq, hsz, wi64 (n := ((p ++ 32 :: q).length : Int) + 1) (by omega) (by omega), wi64 (n := (n : Int) + (((p ++ 32 :: q).length : Int) + 1)) (by omega) (by omega), wi64 (n := (i : Int) + 1) (by omega) (by omega)]
          simp
        · rw [decide_eq_false hpe, Bool.not_false, bsel_true, if_neg hpe]
      by_cases hpe : p = Go.Lib.itoa (chkV c (mkS q))
      · rw [if_pos hpe] at body
        rw [loopM_next body, rec_s hM k (i + 1) _ _ _ (by omega) c2 c3 (by simp; omega) (by omega), recJ_yes (spl_hit hp) hpe]
        have : ((n + ((p ++ 32 :: q).length + 1) : Nat) : Int) = (n : Int) + (((p ++ 32 :: q).length : Int) + 1) := by omega
        rw [this]
      · rw [if_neg hpe] at body
        rw [loopM_out body, recJ_no (spl_hit hp) hpe]
    · have inner : loopM (s_l08Recover_s2 (M.map mkS) (i : Int)) 0 = some (.inl (e.length : Int)) := sp_miss ha hsp (by omega) e.length 0 (by omega)
      have body : s_l08Recover_s3 (M.map mkS) (L, c, (n : Int), (i : Int)) = some (.out (L, (n : Int))) := by
        show s_l08Recover_b3 (M.map mkS) L c (n : Int) (i : Int) = _
        unfold s_l08Recover_b3
        rw [List.length_map, decide_eq_true (by omega), bsel_true, inner, obind_eq]
        show s_l08Recover_k2 (M.map mkS) L c (n : Int) (i : Int) (e.length : Int) = _
        unfold s_l08Recover_k2
        rw [ha, obind_eq, siz, byt_mk, decide_eq_true rfl, bsel_true]
      rw [loopM_out body, recJ_none (spl_none hsp)]
theorem sp_one : byt lit_592437da = [32] := rfl
theorem nl_one : byt lit_e4a5378b = [10] := rfl
theorem cats_mk {a b : List UInt8} (h : a.length + b.length ≤ 1000000000) : cats? (mkS a) (mkS b) = some (mkS (a ++ b)) := by
  unfold cats?
  rw [if_pos (by rw [siz, siz, byt_mk, byt_mk]; omega)]
  refine congrArg some ?_
  rw [← mk_byt (mkS a ++ mkS b)]
  refine congrArg mkS ?_
  show (mkS a ++ mkS b).data.toList = _
  simp [mkS]
theorem itoa_len {n : Int} (h : n.natAbs ≤ 9223372036854775808) : (Go.Lib.itoa n).length ≤ 21 := by
  have h20 : n.natAbs < 10 ^ 20 := by have : (9223372036854775808 : Nat) < 10 ^ 20 := by decide
                                      omega
  have := decI_len n.natAbs h20
  have e : (decI n.natAbs).length = (Go.Lib.decDigits n.natAbs).length := by unfold decI; simp
  unfold Go.Lib.itoa
  split
  · simp; omega
  · rw [show n.toNat = n.natAbs from by omega]; omega
theorem rec_i {t : ByteArray} (ht : (byt t).length ≤ 2000000) : ∀ (k : Nat) (T : List UInt8) (u : Nat) (c : Int) (L : List ByteArray), T.count 10 = k → (byt t).drop u = T → u ≤ (byt t).length → 0 ≤ c → c < 65003 → L.length ≤ u →
    loopM (i_RecoverJournal_s1 t) (L, (u : Int), c) = some (.inr ((recJ (lnsL T) c L u).1, true, (recJ (lnsL T) c L u).2)) := by
  intro k
  induction k with
  | zero =>
    intro T u c L hk hT hu h0 h1 hL
    have hno : 10 ∉ T := List.count_eq_zero.1 hk
    have hTl : T.length ≤ 2000000 := by rw [← hT, List.length_drop]; omega
    have sb : subs? t (u : Int) (t.size : Int) = some (mkS T) := by
      rw [siz, subs_mk hu (Nat.le_refl _), hT, List.take_of_length_le (by rw [← hT, List.length_drop]; omega)]
    refine loopM_ret ?_
    rw [lnsL_none hno]
    show i_RecoverJournal_b1 t L (u : Int) c = _
    unfold i_RecoverJournal_b1
    rw [sb, obind_eq, cut_miss nl_one (by rw [byt_mk]; exact hno), obind3_eq, bsel_false]
    by_cases hs : 32 ∈ T
    · obtain ⟨p, q, rfl, hp⟩ := has_split hs
      rw [cut_hit sp_one (byt_mk _) hp (by rw [byt_mk]; omega), obind3_eq, bsel_true, checkOf_is]
      obtain ⟨c1, _, _⟩ := chk_eq (c := c) (s := mkS q) (by rw [byt_mk]; simp at hTl; omega) h0 h1
      rw [c1, obind_eq]; rfl
    · rw [cut_miss sp_one (by rw [byt_mk]; exact hs), obind3_eq, bsel_false, checkOf_is]
      obtain ⟨c1, _, _⟩ := chk_eq (c := c) (s := lit_99ba06bc) (by decide) h0 h1
      rw [c1, obind_eq]; rfl
  | succ k ih =>
    intro T u c L hk hT hu h0 h1 hL
    obtain ⟨p, q, hTe, hp⟩ := has_split (c := 10) (l := T) (List.count_pos_iff.1 (by omega))
    have hTl : T.length = (byt t).length - u := by rw [← hT, List.length_drop]
    have hlen : T.length = p.length + 1 + q.length := by rw [hTe]; simp; omega
    have hqc : q.count 10 = k := by rw [hTe, List.count_append, List.count_cons_self, List.count_eq_zero.2 hp] at hk; omega
    have hqd : (byt t).drop (u + (p.length + 1)) = q := by
      rw [← List.drop_drop, hT, hTe]; simp [List.drop_append]
    have sb : subs? t (u : Int) (t.size : Int) = some (mkS T) := by
      rw [siz, subs_mk hu (Nat.le_refl _), hT, List.take_of_length_le (by omega)]
    have c0 : x_strings_Cut (mkS T) lit_e4a5378b = some (mkS p, mkS q, true) := cut_hit nl_one (by rw [byt_mk]; exact hTe) hp (by rw [byt_mk]; omega)
    have hln : lnsL T = p :: lnsL q := by rw [hTe, lnsL_hit hp]
    rw [hln]
    by_cases hs : 32 ∈ p
    · obtain ⟨a, b, rfl, ha⟩ := has_split hs
      have hab : (a ++ 32 :: b).length = a.length + 1 + b.length := by simp; omega
      obtain ⟨c1, c2, c3⟩ := chk_eq (c := c) (s := mkS b) (by rw [byt_mk]; omega) h0 h1
      have hit := itoa_len (n := chkV c (mkS b)) (by omega)
      have body : i_RecoverJournal_s1 t (L, (u : Int), c) = if a = Go.Lib.itoa (chkV c (mkS b)) then some (.next (L ++ [mkS b], ((u + ((a ++ 32 :: b).length + 1) : Nat) : Int), chkV c (mkS b))) else some (.ret ((u : Int), true, L)) := by
        show i_RecoverJournal_b1 t L (u : Int) c = _
        unfold i_RecoverJournal_b1
        rw [sb, obind_eq, c0, obind3_eq, bsel_true, cut_hit sp_one (byt_mk _) ha (by rw [byt_mk]; omega), obind3_eq, bsel_true, checkOf_is, c1, obind_eq, i_dec_eq (by omega) (by omega), obind_eq]
        rw [show lit_592437da = mkS [32] from rfl, cats_mk (by simp; omega), obind_eq, cats_mk (by simp; omega), obind_eq, eqs_iff, byt_mk, byt_mk]
        by_cases hpe : a = Go.Lib.itoa (chkV c (mkS b))
        · rw [decide_eq_true (by rw [← hpe]; simp), Bool.not_true, bsel_false, if_pos hpe, show apok 16 L.length 1 = true from by simp only [apok, Bool.and_eq_true, decide_eq_true_eq]; omega, need_true]
          simp only [olet_eq]
          rw [siz, byt_mk, wi64 (n := ((a ++ 32 :: b).length : Int) + 1) (by omega) (by omega), wi64 (n := (u : Int) + (((a ++ 32 :: b).length : Int) + 1)) (by omega) (by omega)]
          simp
        · rw [decide_eq_false (by
            intro h
            rw [List.append_assoc, List.singleton_append] at h
            exact hpe (List.append_cancel_right h).symm), Bool.not_false, bsel_true, if_neg hpe]
      by_cases hpe : a = Go.Lib.itoa (chkV c (mkS b))
      · rw [if_pos hpe] at body
        rw [loopM_next body, ih q (u + ((a ++ 32 :: b).length + 1)) _ _ hqc hqd (by omega) c2 c3 (by simp; omega), recJ_yes (spl_hit ha) hpe]
        have : ((u + ((a ++ 32 :: b).length + 1) : Nat) : Int) = (u : Int) + (((a ++ 32 :: b).length : Int) + 1) := by omega
        rw [this]
      · rw [if_neg hpe] at body
        rw [loopM_ret body, recJ_no (spl_hit ha) hpe]
    · refine loopM_ret ?_
      rw [recJ_none (spl_none hs)]
      show i_RecoverJournal_b1 t L (u : Int) c = _
      unfold i_RecoverJournal_b1
      rw [sb, obind_eq, c0, obind3_eq, bsel_true, cut_miss sp_one (by rw [byt_mk]; exact hs), obind3_eq, bsel_false, checkOf_is]
      obtain ⟨c1, _, _⟩ := chk_eq (c := c) (s := lit_99ba06bc) (by decide) h0 h1
      rw [c1, obind_eq]
theorem s_lines_eq {t : ByteArray} (h : (byt t).length ≤ 2000000) : ∃ x, s_l08Lines t = some ((lnsL (byt t)).map mkS, x) := by
  have hcn : (byt t).count 10 ≤ (byt t).length := List.count_le_length
  have sc : s_l01Cut t 10 = some ((cutL 10 (byt t)).map mkS) := s_cut_eq (c := 10) h
  have hl : ((cutL 10 (byt t)).map mkS).length = (byt t).count 10 + 1 := by rw [List.length_map, cutL_len]
  obtain ⟨x, hx⟩ : ∃ x, ((cutL 10 (byt t)).map mkS)[(byt t).count 10]? = some x := ⟨_, List.getElem?_eq_getElem (by omega)⟩
  have w : IntKind.i64.wrap ((((cutL 10 (byt t)).map mkS).length : Int) - 1) = (((byt t).count 10 : Nat) : Int) := by rw [wi64 (by omega) (by omega)]; omega
  have a1 : at? ((cutL 10 (byt t)).map mkS) (((byt t).count 10 : Nat) : Int) = some x := at?_of (by omega) hx
  refine ⟨x, ?_⟩
  unfold s_l08Lines
  rw [sc, obind_eq]
  simp only [olet_eq]
  rw [w, sub_init hl, obind_eq, a1, obind_eq]
  unfold lnsL
  rw [List.map_take]
theorem RecoverJournal_eq (a0 : ByteArray) (h : a0.size ≤ 1048576) : ∃ (z0 : Int) (z1 : Bool) (z2 : List ByteArray), s_RecoverJournal a0 = some (z0, z1, z2) ∧ i_RecoverJournal a0 = some (z0, z1, z2) ∧ z2.length ≤ 1048576 := by
  have hb : (byt a0).length ≤ 1048576 := by rw [← siz]; exact h
  unfold s_RecoverJournal i_RecoverJournal
  by_cases hc : 16000 < (a0.size : Int)
  · rw [decide_eq_true hc, bsel_true, bsel_true]
    exact ⟨0, false, [], rfl, rfl, by simp⟩
  · rw [decide_eq_false hc, bsel_false, bsel_false]
    have htot := tot_le ((byt a0).count 10) (byt a0) rfl
    have hcn : (byt a0).count 10 ≤ (byt a0).length := List.count_le_length
    have hll : (lnsL (byt a0)).length ≤ (byt a0).count 10 := by unfold lnsL; rw [List.length_take]; omega
    obtain ⟨x, hx⟩ := s_lines_eq (t := a0) (by omega)
    have es : loopM (s_l08Recover_s3 ((lnsL (byt a0)).map mkS)) ([], 0, ((0 : Nat) : Int), ((0 : Nat) : Int)) = _ := rec_s (M := lnsL (byt a0)) (by omega) (lnsL (byt a0)).length 0 0 [] 0 (by omega) (by omega) (by omega) (by simp) (by rw [List.drop_zero]; omega)
    have ei : loopM (i_RecoverJournal_s1 a0) ([], ((0 : Nat) : Int), 0) = _ := rec_i (t := a0) (by omega) ((byt a0).count 10) (byt a0) 0 0 [] rfl (by simp) (by omega) (by omega) (by omega) (by simp)
    have hlen := recJ_len (lnsL (byt a0)) 0 [] ((0 : Nat) : Int)
    rw [List.drop_zero] at es
    refine ⟨(recJ (lnsL (byt a0)) 0 [] ((0 : Nat) : Int)).1, true, (recJ (lnsL (byt a0)) 0 [] ((0 : Nat) : Int)).2, ?_, ?_, by simp only [List.length_nil] at hlen; omega⟩
    · unfold s_l08Recover
      rw [hx, obind2_eq]
      have es : loopM (s_l08Recover_s3 ((lnsL (byt a0)).map mkS)) ([], 0, 0, 0) = _ := es
      rw [es]; rfl
    · have ei : loopM (i_RecoverJournal_s1 a0) ([], 0, 0) = _ := ei
      rw [ei]; rfl
theorem mark_loop : ∀ (k : Nat) (v : Int) (s : List UInt8), 0 ≤ v → v < 10 ^ k → v ≤ 9000000000000000000 → s.length + k ≤ 1000 → ∃ r : List UInt8, loopM w_markText_s1 (v, mkS s) = some (.inl (mkS r)) ∧ r.length ≤ s.length + k
  | 0, v, s, h0, h1, _, hs => by
    have : v = 0 := by simp at h1; omega
    subst this
    exact ⟨s, loopM_out rfl, by omega⟩
  | k + 1, v, s, h0, h1, h9, hs => by
    by_cases hv : v = 0
    · subst hv
      exact ⟨s, loopM_out rfl, by omega⟩
    · have ht : v.tmod 10 = v % 10 := Int.tmod_eq_emod_of_nonneg h0
      have hd : v.tdiv 10 = v / 10 := Int.tdiv_eq_ediv_of_nonneg h0
      have hp : (10 : Int) ^ (k + 1) = 10 ^ k * 10 := Int.pow_succ ..
      obtain ⟨r, hr, hl⟩ := mark_loop k (v / 10) (UInt8.ofNat (48 + v % 10).toNat :: s) (by omega) (by omega) (by omega) (by simp; omega)
      refine ⟨r, ?_, by simp at hl; omega⟩
      rw [loopM_next (s' := (v / 10, mkS (UInt8.ofNat (48 + v % 10).toNat :: s)))]
      · exact hr
      · show w_markText_b1 v (mkS s) = _
        unfold w_markText_b1
        rw [decide_eq_true (by omega), bsel_true, show (!decide (10 = 0)) = true from rfl, need_true]
        simp only [olet_eq]
        rw [ht, hd, wi64 (n := 48 + v % 10) (by omega) (by omega), u8_wrap (by omega) (by omega), show strOfNums [48 + v % 10] = mkS [UInt8.ofNat (48 + v % 10).toNat] from rfl, cats_mk (by simp; omega), obind_eq, need_true, wi64 (by omega) (by omega)]; rfl
noncomputable def mt (k : Int) : ByteArray := (w_markText k).getD lit_99ba06bc
theorem mt_eq {k : Int} (h : k ≤ 2000000000) : w_markText k = some (mt k) := by
  have key : ∃ r, w_markText k = some r := by
    unfold w_markText
    by_cases h0 : k ≤ 0
    · rw [decide_eq_true h0, bsel_true]; exact ⟨_, rfl⟩
    · rw [decide_eq_false h0, bsel_false]
      have h10 : (10 : Int) ^ 10 = 10000000000 := by decide
      obtain ⟨r, hr, hl⟩ := mark_loop 10 k [] (by omega) (by omega) (by omega) (by simp)
      have hr : loopM w_markText_s1 (k, lit_99ba06bc) = some (.inl (mkS r)) := hr
      rw [hr]
      show ∃ x, w_markText_k1 (mkS r) = some x
      unfold w_markText_k1
      rw [show lit_23c9ab83 = mkS [109] from rfl, cats_mk (by simp at hl ⊢; omega)]
      exact ⟨_, rfl⟩
  obtain ⟨r, e⟩ := key
  unfold mt
  rw [e]; rfl
noncomputable def marksS (k : Int) (n : Nat) : List ByteArray := (List.range n).map fun (i : Nat) => mt (k + (i : Int))
theorem marksS_len (k : Int) (n : Nat) : (marksS k n).length = n := by simp [marksS]
theorem eqs_self (s : ByteArray) : eqs s s = true := by rw [eqs_iff]; simp
theorem w_markStringS_0o_eq (k : Int) (a : List ByteArray) (h0 : -1000000000 ≤ k) (h1 : k ≤ 1000000000) (ha : a.length ≤ 1048576) : w_markStringS_0o k a = some (k + (a.length : Int), marksS k a.length) := by
  unfold w_markStringS_0o
  rw [loop_mark mt k a.length (step := w_markStringS_0o_s1 a) ?_ ?_ a rfl]
  · rfl
  · intro L i hi hL
    show w_markStringS_0o_b1 a L (k + (i : Int)) (i : Int) = _
    unfold w_markStringS_0o_b1
    have hs := setAt?_of (l := L) (v := (i : Int)) (x := mt (k + (i : Int))) (by omega) (by omega)
    have e1 : IntKind.i64.wrap (k + (i : Int) + 1) = k + ((i + 1 : Nat) : Int) := by rw [wrap_i64 (by omega) (by omega)]; omega
    have e2 : IntKind.i64.wrap ((i : Int) + 1) = ((i + 1 : Nat) : Int) := by rw [wrap_i64 (by omega) (by omega)]; omega
    rw [mt_eq (by omega)]
    simp only [olet_eq, hs, obind_eq, e1, e2, bsel_if, decide_eq_true_eq]
    rw [if_pos (by omega)]
    rfl
  · intro L hL
    show w_markStringS_0o_b1 a L (k + (a.length : Int)) (a.length : Int) = _
    unfold w_markStringS_0o_b1
    simp [bsel_if]
theorem w_heldStringS_eq (k : Int) (n : Nat) (h0 : -1000000000 ≤ k) (h1 : k ≤ 1000000000) (hn : n ≤ 1048576) : w_heldStringS (marksS k n) k = some (k + (n : Int)) := by
  unfold w_heldStringS
  rw [loop_held (k := k) (n := n) (step := w_heldStringS_s1 (marksS k n)) ?_ ?_]
  · rfl
  · intro i hi
    show w_heldStringS_b1 (marksS k n) (k + (i : Int)) (i : Int) = _
    unfold w_heldStringS_b1
    have hx : (marksS k n)[(i : Int).toNat]? = some (mt (k + (i : Int))) := by simp [marksS, hi]
    have e1 : IntKind.i64.wrap (k + (i : Int) + 1) = k + ((i + 1 : Nat) : Int) := by rw [wrap_i64 (by omega) (by omega)]; omega
    have e2 : IntKind.i64.wrap ((i : Int) + 1) = ((i + 1 : Nat) : Int) := by rw [wrap_i64 (by omega) (by omega)]; omega
    rw [at?_of (by omega) hx, mt_eq (by omega)]
    simp only [olet_eq, obind_eq, e1, e2, bsel_if, decide_eq_true_eq, marksS_len, eqs_self]
    rw [if_pos (by omega)]
    simp
  · show w_heldStringS_b1 (marksS k n) (k + (n : Int)) (n : Int) = _
    unfold w_heldStringS_b1
    simp [bsel_if, marksS_len]
theorem w_eqStringS_refl (a : List ByteArray) (ha : a.length ≤ 1048576) : w_eqStringS a a = some true := by
  have key : ∀ (k j : Nat), j + k = a.length → loopM (w_eqStringS_s1 a a) (j : Int) = some (.inl ()) := by
    intro k
    induction k with
    | zero =>
      intro j hj
      refine loopM_out ?_
      show w_eqStringS_b1 a a (j : Int) = _
      unfold w_eqStringS_b1
      rw [decide_eq_false (by omega), bsel_false]
    | succ k ih =>
      intro j hj
      obtain ⟨x, hx⟩ : ∃ x, a[j]? = some x := ⟨_, List.getElem?_eq_getElem (by omega)⟩
      rw [loopM_next (s' := ((j + 1 : Nat) : Int))]
      · exact ih (j + 1) (by omega)
      · show w_eqStringS_b1 a a (j : Int) = _
        unfold w_eqStringS_b1
        rw [decide_eq_true (by omega), bsel_true, at?_of (by omega) (by rw [show (j : Int).toNat = j from by omega]; exact hx), obind_eq, obind_eq, eqs_self, Bool.not_true, bsel_false]
        simp only [olet_eq]
        rw [wi64 (by omega) (by omega)]; rfl
  have k0 : loopM (w_eqStringS_s1 a a) 0 = some (.inl ()) := key a.length 0 (by omega)
  unfold w_eqStringS
  rw [decide_eq_true rfl, Bool.not_true, bsel_false, k0]; rfl
theorem w_FnExactRecoverJournal_true (a0 : ByteArray)  : w_FnExactRecoverJournal a0 = some true := by
  rcases Nat.lt_or_ge 1048576 a0.size with cb0 | t_a0
  · have db : decide ((1048576 : Int) < (a0.size : Int)) = true := decide_eq_true (by omega)
    simp [w_FnExactRecoverJournal, db]
  have db0 : decide ((1048576 : Int) < (a0.size : Int)) = false := decide_eq_false (by omega)
  obtain ⟨z0, z1, z2, p1, p2, b_z2⟩ := RecoverJournal_eq a0 t_a0
  have f1 : w_eqStringS z2 z2 = some true := w_eqStringS_refl z2 b_z2
  have f2 : (!(z1 == z1)) = false := by cases z1 <;> rfl
  have f3 : w_markStringS_0o 1 z2 = some ((1 + (z2.length : Int)), marksS 1 z2.length) := w_markStringS_0o_eq 1 z2 (by omega) (by omega) b_z2
  have f4 : w_heldStringS (marksS 1 z2.length) 1 = some (1 + (z2.length : Int)) := w_heldStringS_eq 1 z2.length (by omega) (by omega) b_z2
  have f5 : decide ((1 + (z2.length : Int)) < 0) = false := by simp <;> omega
  simp only [w_FnExactRecoverJournal, db0, p1, p2, f1, f2, f3, f4, f5, obind_eq, obind2_eq, obind3_eq, obind4_eq, obind5_eq, obind6_eq, obind7_eq, obind8_eq, bsel_true, bsel_false, need_true, olet_eq, marks_len, marksI_len, marksS_len, decide_true, Bool.not_true, Bool.not_false]

end Go.Proofs.YtddegdokdpeboaaDoor
