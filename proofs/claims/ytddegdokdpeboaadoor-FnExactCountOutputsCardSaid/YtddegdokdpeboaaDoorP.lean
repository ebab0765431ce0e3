/- The plain law of FnExactCountOutputs. -/
import Derived.Test.YtddegdokdpeboaaDoorG0
namespace Go.Proofs.YtddegdokdpeboaaDoor
set_option linter.unusedSimpArgs false
set_option linter.unusedVariables false
open Go Go.AM
def marks (k : Int) (n : Nat) : List F := (List.range n).map fun (i : Nat) => fint .f32 (k + (i : Int))
def marksI (k : Int) (n : Nat) : List Int := (List.range n).map fun (i : Nat) => k + (i : Int)
theorem marks_len (k : Int) (n : Nat) : (marks k n).length = n := by simp [marks]
theorem marksI_len (k : Int) (n : Nat) : (marksI k n).length = n := by simp [marksI]
def mkS (l : List UInt8) : ByteArray := ⟨l.toArray⟩
def byt (s : ByteArray) : List UInt8 := s.data.toList
theorem byt_mk (l : List UInt8) : byt (mkS l) = l := by simp [byt, mkS]
theorem mk_byt (s : ByteArray) : mkS (byt s) = s := Go.Lib.mk_data s
theorem siz (s : ByteArray) : s.size = (byt s).length := Go.Lib.size_eq s
theorem subs_mk {s : ByteArray} {i j : Nat} (h : i ≤ j) (h2 : j ≤ (byt s).length) : subs? s (i : Int) (j : Int) = some (mkS (((byt s).drop i).take (j - i))) := by
  unfold subs?
  rw [if_pos ⟨by omega, by omega, by rw [siz]; omega⟩]
  exact congrArg some (Go.Lib.extract_eq s i j)
theorem sat_mk {s : ByteArray} {i : Nat} {b : UInt8} (h : (byt s)[i]? = some b) : sat? s (i : Int) = some (b.toNat : Int) := by
  unfold sat?
  rw [if_pos (by omega)]
  have hi : i < s.size := by rw [siz]; exact (List.getElem?_eq_some_iff.1 h).1
  have e : s[(i : Int).toNat]? = some b := by
    rw [show (i : Int).toNat = i from by omega, getElem?_pos s i hi]
    have this : s.data.toList[i]? = some s[i] := by
      rw [Array.getElem?_toList]; exact getElem?_pos s.data i hi
    rw [show s.data.toList[i]? = some b from h] at this
    exact this.symm
  rw [e]; rfl
theorem eqs_iff {s t : ByteArray} : eqs s t = decide (byt s = byt t) := by
  unfold eqs byt
  rw [Bool.eq_iff_iff]; simp only [beq_iff_eq, decide_eq_true_eq]
def cutL (c : UInt8) : List UInt8 → List (List UInt8)
  | [] => [[]]
  | b :: l => if b = c then [] :: cutL c l else match cutL c l with
    | [] => [[b]]
    | h :: t => (b :: h) :: t
theorem cutL_none {c : UInt8} : ∀ {p : List UInt8}, c ∉ p → cutL c p = [p]
  | [], _ => rfl
  | b :: l, h => by
    have hb : b ≠ c := fun e => h (by simp [e])
    have hl : c ∉ l := fun e => h (by simp [e])
    unfold cutL
    rw [if_neg hb, cutL_none hl]
theorem cutL_hit {c : UInt8} {q : List UInt8} : ∀ {p : List UInt8}, c ∉ p → cutL c (p ++ c :: q) = p :: cutL c q
  | [], _ => by
    show cutL c (c :: q) = _
    conv => lhs; unfold cutL
    rw [if_pos rfl]
  | b :: l, h => by
    have hb : b ≠ c := fun e => h (by simp [e])
    have hl : c ∉ l := fun e => h (by simp [e])
    show cutL c (b :: (l ++ c :: q)) = _
    conv => lhs; unfold cutL
    rw [if_neg hb, cutL_hit hl]
theorem cutL_len {c : UInt8} : ∀ {l : List UInt8}, (cutL c l).length = l.count c + 1
  | [] => rfl
  | b :: l => by
    have ih := cutL_len (c := c) (l := l)
    unfold cutL
    by_cases hb : b = c
    · rw [if_pos hb, List.length_cons, ih, hb, List.count_cons_self]
    · rw [if_neg hb, List.count_cons_of_ne hb, ← ih]
      cases h : cutL c l with
      | nil => rw [h] at ih; simp at ih
      | cons x y => rfl
theorem idx_hit {c : UInt8} : ∀ {l : List UInt8}, c ∈ l → ∃ p q, l = p ++ c :: q ∧ c ∉ p ∧ Go.Lib.indexByte l c = (p.length : Int)
  | [], h => by simp at h
  | b :: l, h => by
    by_cases hb : b = c
    · exact ⟨[], l, by simp [hb], by simp, by unfold Go.Lib.indexByte; rw [if_pos (by simp [hb])]; rfl⟩
    · have hl : c ∈ l := by rcases List.mem_cons.1 h with e | e; exact absurd e.symm hb; exact e
      obtain ⟨p, q, e1, e2, e3⟩ := idx_hit hl
      refine ⟨b :: p, q, by simp [e1], by simp [e2, Ne.symm hb], ?_⟩
      unfold Go.Lib.indexByte
      rw [if_neg (by simp [hb]), e3, if_neg (by simp)]; simp
theorem wi64 {n : Int} (h0 : -9000000000000000000 ≤ n) (h1 : n ≤ 9000000000000000000) : IntKind.i64.wrap n = n := wrap_i64 (by omega) (by omega)
theorem bytePiece {l : List UInt8} {i j : Nat} {b : UInt8} (hij : i ≤ j) (h : l[j]? = some b) : (l.drop i).take (j + 1 - i) = (l.drop i).take (j - i) ++ [b] := by
  rw [show j + 1 - i = (j - i) + 1 from by omega, List.take_add_one, List.getElem?_drop, show i + (j - i) = j from by omega, h]; rfl
theorem pieceDrop {l : List UInt8} {i j : Nat} (hij : i ≤ j) : l.drop i = (l.drop i).take (j - i) ++ l.drop j := by
  have := List.take_append_drop (j - i) (l.drop i)
  rw [List.drop_drop, show i + (j - i) = j from by omega] at this
  exact this.symm
theorem cut_loop {a0 : ByteArray} {c : UInt8} (hn : (byt a0).length ≤ 2000000) : ∀ (k i j : Nat) (L : List ByteArray), j + k = (byt a0).length → i ≤ j → L.length ≤ j → c ∉ ((byt a0).drop i).take (j - i) →
    loopM (s_l01Cut_s3 a0 (c.toNat : Int)) (L, (i : Int), (j : Int)) = some (.inl (L ++ (cutL c ((byt a0).drop i)).map mkS))
  | 0, i, j, L, hj, hij, hL, hc => by
    have ap : apok 16 L.length 1 = true := by simp only [apok, Bool.and_eq_true, decide_eq_true_eq]; omega
    have e : s_l01Cut_s3 a0 (c.toNat : Int) (L, (i : Int), (j : Int)) = some (.next (L ++ [mkS (((byt a0).drop i).take (j - i))], (j : Int) + 1, (j : Int) + 1)) := by
      show s_l01Cut_b3 a0 (c.toNat : Int) L (i : Int) (j : Int) = _
      unfold s_l01Cut_b3 s_l01Cut_k2
      rw [siz, decide_eq_true (by omega), bsel_true, decide_eq_true (by omega), bsel_true, subs_mk hij (by omega), obind_eq, ap, need_true]
      simp only [olet_eq]
      rw [wi64 (by omega) (by omega)]
    rw [loopM_next e, loopM_out (e := L ++ [mkS (((byt a0).drop i).take (j - i))])]
    · have hd : (byt a0).drop i = ((byt a0).drop i).take (j - i) := (List.take_of_length_le (by rw [List.length_drop]; omega)).symm
      have hc' : c ∉ (byt a0).drop i := by rw [hd]; exact hc
      rw [cutL_none hc', ← hd]; rfl
    · show s_l01Cut_b3 a0 (c.toNat : Int) _ ((j : Int) + 1) ((j : Int) + 1) = _
      unfold s_l01Cut_b3
      rw [siz, decide_eq_false (by omega), bsel_false]
  | k + 1, i, j, L, hj, hij, hL, hc => by
    have ap : apok 16 L.length 1 = true := by simp only [apok, Bool.and_eq_true, decide_eq_true_eq]; omega
    have hlt : j < (byt a0).length := by omega
    obtain ⟨b, hb⟩ : ∃ b, (byt a0)[j]? = some b := ⟨_, List.getElem?_eq_getElem hlt⟩
    by_cases hbc : b = c
    · have e : s_l01Cut_s3 a0 (c.toNat : Int) (L, (i : Int), (j : Int)) = some (.next (L ++ [mkS (((byt a0).drop i).take (j - i))], ((j + 1 : Nat) : Int), ((j + 1 : Nat) : Int))) := by
        show s_l01Cut_b3 a0 (c.toNat : Int) L (i : Int) (j : Int) = _
        unfold s_l01Cut_b3 s_l01Cut_k2
        rw [siz, decide_eq_true (by omega), bsel_true, decide_eq_false (by omega), bsel_false, sat_mk hb, obind_eq, hbc, decide_eq_true rfl, bsel_true, subs_mk hij (by omega), obind_eq, ap, need_true]
        simp only [olet_eq]
        rw [wi64 (by omega) (by omega)]; rfl
      rw [loopM_next e, cut_loop hn k (j + 1) (j + 1) _ (by omega) (Nat.le_refl _) (by simp; omega) (by simp)]
      have hd : (byt a0).drop i = ((byt a0).drop i).take (j - i) ++ c :: (byt a0).drop (j + 1) := by
        conv => lhs; rw [pieceDrop hij]
        rw [List.drop_eq_getElem_cons hlt]
        have : (byt a0)[j] = c := by rw [List.getElem?_eq_getElem hlt] at hb; rw [Option.some.inj hb, hbc]
        rw [this]
      conv => rhs; rw [hd, cutL_hit hc]
      simp
    · have hne : ¬ ((b.toNat : Int) = (c.toNat : Int)) := fun e => hbc (UInt8.toNat_inj.1 (by omega))
      have e : s_l01Cut_s3 a0 (c.toNat : Int) (L, (i : Int), (j : Int)) = some (.next (L, (i : Int), ((j + 1 : Nat) : Int))) := by
        show s_l01Cut_b3 a0 (c.toNat : Int) L (i : Int) (j : Int) = _
        unfold s_l01Cut_b3 s_l01Cut_k2
        rw [siz, decide_eq_true (by omega), bsel_true, decide_eq_false (by omega), bsel_false, sat_mk hb, obind_eq, decide_eq_false hne, bsel_false]
        simp only [olet_eq]
        rw [wi64 (by omega) (by omega)]; rfl
      rw [loopM_next e, cut_loop hn k i (j + 1) L (by omega) (by omega) (by omega) (by
        rw [bytePiece hij hb]
        simp only [List.mem_append, List.mem_singleton, not_or]
        exact ⟨hc, fun e => hbc e.symm⟩)]
theorem s_cut_eq {a0 : ByteArray} {c : UInt8} (hn : (byt a0).length ≤ 2000000) : s_l01Cut a0 (c.toNat : Int) = some ((cutL c (byt a0)).map mkS) := by
  unfold s_l01Cut
  have e := cut_loop (c := c) hn (byt a0).length 0 0 [] (by omega) (Nat.le_refl _) (Nat.le_refl _) (by simp)
  have e : loopM (s_l01Cut_s3 a0 (c.toNat : Int)) ([], 0, 0) = some (.inl ([] ++ (cutL c ((byt a0).drop 0)).map mkS)) := e
  rw [e]; rfl
theorem nl_size : (lit_e4a5378b.size : Int) = 1 := rfl
theorem nl_sat : sat? lit_e4a5378b 0 = some 10 := rfl
theorem x_index_nl (s : ByteArray) : x_strings_Index s lit_e4a5378b = some (Go.Lib.indexByte (byt s) 10) := by
  unfold x_strings_Index x_internal_stringslite_Index
  rw [nl_size, decide_eq_false (by omega), bsel_false, eqs_iff]
  by_cases h : byt lit_e4a5378b = byt s
  · rw [decide_eq_true h, bsel_true, ← h]; rfl
  · rw [decide_eq_false h, bsel_false, decide_eq_true rfl, bsel_true, nl_sat, obind_eq]; rfl
theorem split_loop : ∀ (r : Nat) (D : List ByteArray) (s : ByteArray), (byt s).count 10 = r → D.length + r ≤ 2000000 → (byt s).length ≤ 2000000 →
    ∃ e, loopM (x_strings_genSplit_s2 lit_e4a5378b 0 ((D.length + r : Nat) : Int)) (D ++ List.replicate (r + 1) lit_99ba06bc, s, (D.length : Int)) = some (.inl e) ∧ x_strings_genSplit_k2 e.1 e.2.1 e.2.2 = some (D ++ (cutL 10 (byt s)).map mkS)
  | 0, D, s, hc, hD, hs => by
    refine ⟨(D ++ List.replicate 1 lit_99ba06bc, s, (D.length : Int)), ?_, ?_⟩
    · refine loopM_out ?_
      show x_strings_genSplit_b2 _ _ ((D.length + 0 : Nat) : Int) _ _ (D.length : Int) = _
      unfold x_strings_genSplit_b2
      rw [decide_eq_false (by omega), bsel_false]
    · have hno : (10 : UInt8) ∉ byt s := List.count_eq_zero.1 hc
      show x_strings_genSplit_k2 (D ++ List.replicate 1 lit_99ba06bc) s (D.length : Int) = _
      unfold x_strings_genSplit_k2
      rw [setAt?_of (by omega) (by simp), obind_eq, cutL_none hno]
      simp only [olet_eq]
      rw [wi64 (by omega) (by omega)]
      have e : (D ++ List.replicate 1 lit_99ba06bc).set ((D.length : Nat) : Int).toNat s = D ++ [s] := by
        rw [show ((D.length : Nat) : Int).toNat = D.length from by omega]; simp
      rw [e]
      have e2 : sub? (D ++ [s]) 0 ((D.length : Int) + 1) = some (D ++ [s]) := by
        unfold sub?
        rw [if_pos ⟨by omega, by omega, by simp⟩]
        simp only [Int.toNat_zero, List.drop_zero]
        rw [List.take_of_length_le (by simp)]
      rw [e2]; simp [mk_byt, obind_eq]
  | r + 1, D, s, hc, hD, hs => by
    have hin : (10 : UInt8) ∈ byt s := List.count_pos_iff.1 (by omega)
    obtain ⟨p, q, e1, e2, e3⟩ := idx_hit hin
    have hl : (byt s).length = p.length + 1 + q.length := by rw [e1]; simp; omega
    have hcq : q.count 10 = r := by
      rw [e1, List.count_append, List.count_cons_self, List.count_eq_zero.2 e2] at hc; omega
    obtain ⟨e, h1, h2⟩ := split_loop r (D ++ [mkS p]) (mkS q) (by rw [byt_mk]; exact hcq) (by simp; omega) (by rw [byt_mk]; omega)
    refine ⟨e, ?_, ?_⟩
    · have st : x_strings_genSplit_s2 lit_e4a5378b 0 ((D.length + (r + 1) : Nat) : Int) (D ++ List.replicate (r + 1 + 1) lit_99ba06bc, s, (D.length : Int)) = some (.next ((D ++ [mkS p]) ++ List.replicate (r + 1) lit_99ba06bc, mkS q, (((D ++ [mkS p]).length : Nat) : Int))) := by
        show x_strings_genSplit_b2 _ _ ((D.length + (r + 1) : Nat) : Int) _ _ (D.length : Int) = _
        unfold x_strings_genSplit_b2
        rw [decide_eq_true (by omega), bsel_true, x_index_nl, obind_eq, e3, decide_eq_false (by omega), bsel_false]
        simp only [olet_eq]
        rw [wi64 (by omega) (by omega), show ((p.length : Nat) : Int) + 0 = ((p.length : Nat) : Int) from by omega]
        have k1 : subs? s 0 ((p.length : Nat) : Int) = some (mkS p) := by
          have := subs_mk (s := s) (i := 0) (j := p.length) (by omega) (by omega)
          rw [show ((0 : Nat) : Int) = 0 from rfl] at this
          rw [this, List.drop_zero, e1]; simp
        rw [k1, obind_eq, setAt?_of (by omega) (by simp), obind_eq, nl_size, wi64 (by omega) (by omega)]
        have k2 : subs? s ((p.length : Int) + 1) (s.size : Int) = some (mkS q) := by
          have := subs_mk (s := s) (i := p.length + 1) (j := (byt s).length) (by omega) (by omega)
          rw [siz, show ((p.length : Int) + 1) = ((p.length + 1 : Nat) : Int) from by omega, this, e1]
          have d : (p ++ 10 :: q).drop (p.length + 1) = q := by simp [List.drop_append]
          rw [d, List.take_of_length_le (by simp; omega)]
        rw [k2, obind_eq, wi64 (by omega) (by omega)]
        have e : (D ++ List.replicate (r + 1 + 1) lit_99ba06bc).set ((D.length : Nat) : Int).toNat (mkS p) = (D ++ [mkS p]) ++ List.replicate (r + 1) lit_99ba06bc := by
          rw [show ((D.length : Nat) : Int).toNat = D.length from by omega, List.replicate_succ]; simp
        rw [e]
        have e4 : (((D ++ [mkS p]).length : Nat) : Int) = (D.length : Int) + 1 := by simp
        rw [e4]
      rw [loopM_next st]
      rw [show D.length + (r + 1) = (D ++ [mkS p]).length + r from by simp; omega]
      exact h1
    · rw [h2, byt_mk, e1, cutL_hit e2]; simp
theorem x_split_nl {s : ByteArray} (h : (byt s).length ≤ 1048576) : x_strings_Split s lit_e4a5378b = some ((cutL 10 (byt s)).map mkS) := by
  have hcn : (byt s).count 10 ≤ (byt s).length := List.count_le_length
  obtain ⟨e, h1, h2⟩ := split_loop ((byt s).count 10) [] s rfl (by simp; omega) (by omega)
  have cnt : x_strings_Count s lit_e4a5378b = some (((byt s).count 10 : Nat) : Int) := by
    unfold x_strings_Count
    rw [nl_size, decide_eq_false (by omega), bsel_false, decide_eq_true rfl, bsel_true, nl_sat, obind_eq]; rfl
  have mn : imin (((byt s).count 10 : Nat) + 1) ((s.size : Int) + 1) = ((byt s).count 10 : Nat) + 1 := by
    unfold imin; rw [if_neg (by rw [siz]; omega)]
  unfold x_strings_Split x_strings_genSplit
  rw [decide_eq_false (by omega), bsel_false, show eqs lit_e4a5378b lit_99ba06bc = false from rfl, bsel_false, decide_eq_true (by omega), bsel_true, cnt, obind_eq]
  simp only [olet_eq]
  rw [wi64 (by omega) (by omega)]
  unfold x_strings_genSplit_k1
  simp only [olet_eq]
  rw [wi64 (n := (s.size : Int) + 1) (by omega) (by rw [siz]; omega), mn, show mkok 16 (((byt s).count 10 : Nat) + 1) = true from by simp only [mkok, Bool.and_eq_true, decide_eq_true_eq]; omega, need_true, wi64 (by omega) (by omega)]
  have g : ((((byt s).count 10 : Nat) : Int) + 1 - 1) = ((([] : List ByteArray).length + (byt s).count 10 : Nat) : Int) := by simp
  rw [g, show ((((byt s).count 10 : Nat) : Int) + 1).toNat = (byt s).count 10 + 1 from by omega]
  have h1 : loopM (x_strings_genSplit_s2 lit_e4a5378b 0 ((([] : List ByteArray).length + (byt s).count 10 : Nat) : Int)) (List.replicate ((byt s).count 10 + 1) lit_99ba06bc, s, 0) = some (.inl e) := h1
  rw [h1]
  simp only [obind_eq, osum]
  rw [h2]; rfl
theorem sub_init {α : Type} {l : List α} {n : Nat} (h : l.length = n + 1) : sub? l 0 (n : Int) = some (l.take n) := by
  unfold sub?
  rw [if_pos ⟨by omega, by omega, by omega⟩]; simp
def isBad (s : ByteArray) : Bool := eqs s lit_7101a59a || eqs s lit_2d360788
theorem count_step (R : List ByteArray) : s_CountOutputs_s3 R = i_CountOutputs_s3 R := by
  funext s
  show s_CountOutputs_b3 _ _ _ = i_CountOutputs_b3 _ _ _
  unfold s_CountOutputs_b3 i_CountOutputs_b3
  cases h : at? R s.2 with
  | none => rfl
  | some x => rfl
theorem count_loop (R : List ByteArray) (hR : R.length ≤ 2000000) : ∀ (k j v : Nat), j + k = R.length → v ≤ j → ∃ z : Int, loopM (i_CountOutputs_s3 R) ((v : Int), (j : Int)) = some (.inl z)
  | 0, j, v, hj, hv => ⟨(v : Int), loopM_out (by
      show i_CountOutputs_b3 R (v : Int) (j : Int) = _
      unfold i_CountOutputs_b3
      rw [decide_eq_false (by omega), bsel_false])⟩
  | k + 1, j, v, hj, hv => by
    obtain ⟨x, hx⟩ : ∃ x, R[j]? = some x := ⟨_, List.getElem?_eq_getElem (by omega)⟩
    have e : i_CountOutputs_s3 R ((v : Int), (j : Int)) = some (.next (bif isBad x then ((v + 1 : Nat) : Int) else (v : Int), ((j + 1 : Nat) : Int))) := by
      show i_CountOutputs_b3 R (v : Int) (j : Int) = _
      unfold i_CountOutputs_b3 i_CountOutputs_k2 isBad
      rw [decide_eq_true (by omega), bsel_true, at?_of (by omega) (by rw [show (j : Int).toNat = j from by omega]; exact hx), obind_eq]
      simp only [olet_eq]
      rw [wi64 (n := (v : Int) + 1) (by omega) (by omega), wi64 (n := (j : Int) + 1) (by omega) (by omega)]
      cases eqs x lit_7101a59a <;> cases eqs x lit_2d360788 <;> rfl
    rw [loopM_next e]
    cases isBad x
    · exact count_loop R hR k (j + 1) v (by omega) (by omega)
    · exact count_loop R hR k (j + 1) (v + 1) (by omega) (by omega)
theorem CountOutputs_eq (a0 : ByteArray) (h : a0.size ≤ 1048576) : ∃ (z0 z1 : Int) (z2 : Bool), s_CountOutputs a0 = some (z0, z1, z2) ∧ i_CountOutputs a0 = some (z0, z1, z2) := by
  have hb : (byt a0).length ≤ 1048576 := by rw [← siz]; exact h
  have hcn : (byt a0).count 10 ≤ (byt a0).length := List.count_le_length
  have sp := x_split_nl hb
  have sc : s_l01Cut a0 10 = some ((cutL 10 (byt a0)).map mkS) := s_cut_eq (c := 10) (by omega)
  generalize hR : (cutL 10 (byt a0)).map mkS = R at sp sc
  have hl : R.length = (byt a0).count 10 + 1 := by rw [← hR, List.length_map, cutL_len]
  generalize hn : (byt a0).count 10 = n at hl hcn
  obtain ⟨x, hx⟩ : ∃ x, R[n]? = some x := ⟨_, List.getElem?_eq_getElem (by omega)⟩
  have w : IntKind.i64.wrap ((R.length : Int) - 1) = (n : Int) := by rw [wi64 (by omega) (by omega)]; omega
  have a1 : at? R (n : Int) = some x := at?_of (by omega) hx
  have il : i_linesOf a0 = some (R.take n, decide ((a0.size : Int) ≤ 16000) && eqs x lit_99ba06bc) := by
    unfold i_linesOf
    rw [sp, obind_eq]
    simp only [olet_eq]
    rw [w, sub_init hl, obind_eq]
    by_cases hc : (a0.size : Int) ≤ 16000
    · rw [decide_eq_true hc, bsel_true, a1, obind_eq]; rfl
    · rw [decide_eq_false hc, bsel_false]; rfl
  have sl : s_l08Lines a0 = some (R.take n, x) := by
    unfold s_l08Lines
    rw [sc, obind_eq]
    simp only [olet_eq]
    rw [w, sub_init hl, obind_eq, a1, obind_eq]
  unfold s_CountOutputs i_CountOutputs
  rw [il, obind2_eq]
  by_cases hc : (a0.size : Int) ≤ 16000
  · rw [decide_eq_false (by omega), bsel_false, sl, obind2_eq, decide_eq_true hc, Bool.true_and]
    cases hq : eqs x lit_99ba06bc
    · exact ⟨0, 0, false, by rw [show (!false) = true from rfl, bsel_true], by rw [bsel_false]⟩
    · have hT : (R.take n).length = n := by rw [List.length_take]; omega
      obtain ⟨z, hz⟩ := count_loop (R.take n) (by omega) n 0 0 (by omega) (by omega)
      have hz : loopM (i_CountOutputs_s3 (R.take n)) (0, 0) = some (.inl z) := hz
      rw [show (!true) = false from rfl, bsel_false, bsel_true, count_step, hz]
      exact ⟨z, IntKind.i64.wrap (((R.take n).length : Int) - z), true, rfl, rfl⟩
  · rw [decide_eq_true (by omega), bsel_true, decide_eq_false hc, Bool.false_and, bsel_false]
    exact ⟨0, 0, false, rfl, rfl⟩
theorem w_FnExactCountOutputs_true (a0 : ByteArray)  : w_FnExactCountOutputs a0 = some true := by
  rcases Nat.lt_or_ge 1048576 a0.size with cb0 | t_a0
  · have db : decide ((1048576 : Int) < (a0.size : Int)) = true := decide_eq_true (by omega)
    simp [w_FnExactCountOutputs, db]
  have db0 : decide ((1048576 : Int) < (a0.size : Int)) = false := decide_eq_false (by omega)
  obtain ⟨z0, z1, z2, p1, p2⟩ := CountOutputs_eq a0 t_a0
  have f1 : (!(z2 == z2)) = false := by cases z2 <;> rfl
  simp only [w_FnExactCountOutputs, db0, p1, p2, f1, obind_eq, obind2_eq, obind3_eq, obind4_eq, obind5_eq, obind6_eq, obind7_eq, obind8_eq, bsel_true, bsel_false, need_true, olet_eq, marks_len, marksI_len, decide_true, Bool.not_true, Bool.not_false]

end Go.Proofs.YtddegdokdpeboaaDoor
