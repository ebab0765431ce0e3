/- The plain law of FnNodes. -/
import Derived.Test.YtkdociaoknmgbaaGreatG2
namespace Go.Proofs.YtkdociaoknmgbaaGreat
set_option linter.unusedSimpArgs false
set_option linter.unusedVariables false
open Go Go.AM
def Small {α : Type} (l : List α) : Prop := l.length ≤ 9223372036854775807
def FOks (l : List F) : Prop := ∀ c ∈ l, FOk .f32 c
theorem FOks.at {l : List F} (h : FOks l) {i : Nat} {c : F} (e : l[i]? = some c) : FOk .f32 c := h c (List.mem_of_getElem? e)
theorem s_l00In_eq (n lo hi : Int) : s_l00In n lo hi = some (decide (lo ≤ n) && decide (n ≤ hi)) := by
  unfold s_l00In; cases decide (lo ≤ n) <;> rfl
theorem i_inRange_eq (n lo hi : Int) : i_inRange n lo hi = some (decide (lo ≤ n) && decide (n ≤ hi)) := by
  unfold i_inRange; cases decide (lo ≤ n) <;> rfl
theorem s_l01Finite_eq {c : F} (h : FOk .f32 c) : s_l01Finite c = some (fin32 c) := by
  unfold s_l01Finite; rw [olet_eq, sub_self h]
theorem s_l02Finite_eq {a : List F} (ha : FOks a) (sa : a.length ≤ 1048576) : s_l02Finite a = some (a.all fin32) := by
  unfold s_l02Finite
  rw [loop_all (l := a) (p := fin32) false ?_ ?_]
  · cases h : a.all fin32 <;> simp [s_l02Finite_k1]
  · intro v x h0 hv hx
    show s_l02Finite_b1 a v = _
    unfold s_l02Finite_b1
    rw [at?_of h0 hx, wrap_succ h0 hv (by omega)]
    simp [bsel_if, hv, s_l01Finite_eq (ha.at hx)]
  · show s_l02Finite_b1 a (a.length : Int) = _
    unfold s_l02Finite_b1
    simp [bsel_if]
theorem i_IsFinite_eq {c : F} (h : FOk .f32 c) : i_IsFinite c = some (fin32 c) := by
  unfold i_IsFinite i_isFinite64 x_math_IsNaN x_math_IsInf x_math_Abs x_math_IsInf_k1
  cases c with
  | none => simp [fwiden, fin32]
  | some b =>
    have hw := feq_refl (k := .f64) (b := FloatKind.f64.encode (FloatKind.f32.decode b)) (fwiden_ok h)
    have hw' : feq .f64 (fwiden (some b)) (fwiden (some b)) = true := hw
    have hm := fabs_max h (by simp)
    simp only [olet_eq, obind_eq, hw', Bool.not_true, bsel_false, decide_true, bsel_true, hm, Bool.not_not]
theorem i_areFinite_1_eq {c : F} (h : FOk .f32 c) : i_areFinite_1 c = some (!fin32 c) := by
  unfold i_areFinite_1; rw [i_IsFinite_eq h]; rfl
theorem any_not {α : Type} (l : List α) (p : α → Bool) : l.any (fun x => !p x) = !l.all p := by
  induction l with
  | nil => rfl
  | cons a l ih => simp [ih]
theorem i_areFinite_eq {a : List F} (ha : FOks a) (sa : a.length ≤ 1048576) : i_areFinite a = some (a.all fin32) := by
  unfold i_areFinite x_slices_ContainsFunc_float32_float32_1Fi_areFinite_1 x_slices_IndexFunc_float32_float32_1Fi_areFinite_1
  obtain ⟨r, h1, h2⟩ := loop_find (l := a) (p := fun c => !fin32 c) (step := x_slices_IndexFunc_float32_float32_1Fi_areFinite_1_s1 a) (by
    intro v x h0 hv hx
    show x_slices_IndexFunc_float32_float32_1Fi_areFinite_1_b1 a v = _
    unfold x_slices_IndexFunc_float32_float32_1Fi_areFinite_1_b1
    rw [at?_of h0 hx, wrap_succ h0 hv (by omega)]
    simp [bsel_if, hv, i_areFinite_1_eq (ha.at hx)]) (by
    show x_slices_IndexFunc_float32_float32_1Fi_areFinite_1_b1 a (a.length : Int) = _
    unfold x_slices_IndexFunc_float32_float32_1Fi_areFinite_1_b1
    simp [bsel_if])
  rw [h1, any_not]
  cases h : a.all fin32 <;> simp [x_slices_IndexFunc_float32_float32_1Fi_areFinite_1_k1, h2]
abbrev q1 : List F := [some 1073741824, some 1065353216, some 1065353216, some 1073741824]
abbrev q2 : List F := [some 1065353216, some 0]
abbrev q3 : List F := [some 1073741824, some 1073741824]
abbrev q4 : List F := [some 1065353216]
abbrev q5 : List Int := [2, 4, 6, 8]
theorem small_mul {x y : Nat} (hx : x ≤ 12) (hy : y ≤ 12) : x * y ≤ 144 := Nat.mul_le_mul hx hy
def side (n : Int) : Bool := decide (1 ≤ n) && decide (n ≤ 12)
theorem s_l02Sides_eq (x y : Int) : s_l02Sides x y = some (side x && side y) := by
  unfold s_l02Sides; rw [s_l00In_eq, s_l00In_eq]; unfold side
  cases decide (1 ≤ x) <;> cases decide (x ≤ 12) <;> rfl
theorem i_isSide_eq (x : Int) : i_isSide x = some (side x) := by
  unfold i_isSide; rw [i_inRange_eq]; rfl
def validM (a0 a1 : Int) (a2 : List F) : Bool := side a0 && side a1 && decide ((a2.length : Int) = IntKind.i64.wrap (a0 * a1)) && a2.all fin32
theorem s_l02Is_eq (a0 a1 : Int) {a2 : List F} (g2 : FOks a2) (s2 : a2.length ≤ 1048576) : s_l02Is a0 a1 a2 = some (validM a0 a1 a2) := by
  unfold s_l02Is validM
  rw [s_l02Sides_eq, s_l02Finite_eq g2 s2]
  cases side a0 <;> cases side a1 <;> simp [bsel_if] <;> split <;> simp_all
theorem i_ValidMatrix_eq (a0 a1 : Int) {a2 : List F} (g2 : FOks a2) (s2 : a2.length ≤ 1048576) : i_ValidMatrix a0 a1 a2 = some (validM a0 a1 a2) := by
  unfold i_ValidMatrix i_length_float32 validM
  rw [i_isSide_eq, i_isSide_eq, i_areFinite_eq g2 s2]
  cases side a0 <;> cases side a1 <;> simp [bsel_if] <;> split <;> simp_all
theorem side_nat {n : Int} (h : side n = true) : ∃ m : Nat, n = (m : Int) ∧ 0 < m ∧ m ≤ 12 := by
  simp [side] at h
  exact ⟨n.toNat, by omega, by omega, by omega⟩
theorem FOks.getD {l : List F} (h : FOks l) (n : Nat) : FOk .f32 (l.getD n none) := by
  simp only [List.getD]
  cases e : l[n]? with
  | none => exact fok_none _
  | some c => exact h.at e
theorem FOks.set {l : List F} (h : FOks l) {n : Nat} {x : F} (hx : FOk .f32 x) : FOks (l.set n x) := by
  intro c hc
  rcases List.mem_or_eq_of_mem_set hc with h1 | h1
  · exact h c h1
  · exact h1 ▸ hx
theorem wsucc {i : Nat} (h : i ≤ 1000000000) : IntKind.i64.wrap ((i : Int) + 1) = ((i + 1 : Nat) : Int) := by
  rw [wrap_i64 (by omega) (by omega)]; omega
theorem dlt {i n : Nat} (h : i < n) : decide ((i : Int) < (n : Int)) = true := by simp; omega
theorem dnlt {n : Nat} : decide ((n : Int) < (n : Int)) = false := by simp
theorem i_Matrix_at_eq {A C i k : Nat} {L : List F} (r : Int) (h : Mat A C L) (hi : i < A) (hk : k < C) : i_Matrix_at r (C : Int) L (i : Int) (k : Int) = some (gm none L C i k) := by
  obtain ⟨e1, e2⟩ := idx_w h.A1 h.C1 hi hk
  unfold i_Matrix_at
  rw [e1, olet_eq, e2, olet_eq, at?_n none (h.lt hi hk), obind_eq]
theorem s_l02At_eq {A C i k : Nat} {L : List F} (r : Int) (h : Mat A C L) (hi : i < A) (hk : k < C) : s_l02At r (C : Int) L (i : Int) (k : Int) = some (gm none L C i k) := by
  obtain ⟨e1, e2⟩ := idx_w h.A1 h.C1 hi hk
  unfold s_l02At
  rw [e1, olet_eq, e2, olet_eq, at?_n none (h.lt hi hk), obind_eq]
theorem i_absolute_eq {c : F} (h : FOk .f32 c) : i_absolute c = some (fabs32 c) := by
  unfold i_absolute x_math_Abs
  rw [olet_eq, olet_eq, obind_eq, abs_narrow h, obind_eq]
theorem s_l02Size_eq {c : F} (h : FOk .f32 c) : s_l02Size c = some (fabs32 c) := by
  unfold s_l02Size
  rw [← size_abs h, bsel_if, olet_eq]
  split <;> rfl
theorem i_mul_eq (a b : F) : i_mul a b = some (fop .mul .f32 a b) := rfl
def findP (C k : Nat) (L : List F) (r b : Nat) : Nat := if flt .f32 (fabs32 (gm none L C b k)) (fabs32 (gm none L C r k)) = true then r else b
theorem s_l03Find_eq {n k : Nat} {L : List F} (g : FOks L) (h : Mat n n L) (hk : k < n) : s_l03Find (n : Int) (n : Int) L (k : Int) = some ((run (findP n k L) (k + 1) (n - (k + 1)) k : Nat) : Int) ∧ run (findP n k L) (k + 1) (n - (k + 1)) k < n := by
  have hn := h.A1
  obtain ⟨e, hI⟩ := loop_run (step := s_l03Find_s3 (n : Int) (n : Int) L (k : Int)) (fun (i b : Nat) => ((b : Int), (i : Int))) (findP n k L) (fun (b : Nat) => (b : Int)) (fun (_ b : Nat) => b < n) (lo := k + 1) (n := n) hk (s0 := k) hk
    (fun i b h1 h2 h4 => by
      refine ⟨?_, ?_⟩
      · show s_l03Find_b3 _ _ _ _ _ _ = _
        unfold s_l03Find_b3
        rw [dlt h2, bsel_true, s_l02At_eq _ h h2 hk, obind_eq, s_l02Size_eq (g.getD _), obind_eq, s_l02At_eq _ h h4 hk, obind_eq, s_l02Size_eq (g.getD _), obind_eq]
        unfold s_l03Find_k2
        rw [wsucc (by omega)]
        unfold findP
        cases flt .f32 (fabs32 (gm none L n b k)) (fabs32 (gm none L n i k)) <;> rfl
      · unfold findP; split <;> omega)
    (fun b _ => by
      show s_l03Find_b3 _ _ _ _ _ _ = _
      unfold s_l03Find_b3
      rw [dnlt, bsel_false])
  refine ⟨?_, hI⟩
  unfold s_l03Find
  rw [wsucc (by omega), olet_eq, e]
  rfl
def swapP {α : Type} (d : α) (C i j c : Nat) (L : List α) : List α := sm (sm L C i c (gm d L C j c)) C j c (gm d L C i c)
theorem swapP_mat {α : Type} {d : α} {A C i j c : Nat} {L : List α} (h : Mat A C L) : Mat A C (swapP d C i j c L) := (h.set _ _ _).set _ _ _
theorem swapP_oks {C i j c : Nat} {L : List F} (h : FOks L) : FOks (swapP none C i j c L) := (h.set (h.getD _)).set (h.getD _)
def swapR {α : Type} (d : α) (C i j : Nat) (L : List α) : List α := run (swapP d C i j) 0 C L
theorem swapR_mat {α : Type} {d : α} {A C i j : Nat} {L : List α} (h : Mat A C L) : Mat A C (swapR d C i j L) := run_inv (fun _ L => Mat A C L) C 0 L h fun _ _ _ _ h => swapP_mat h
theorem swapR_oks {C i j : Nat} {L : List F} (h : FOks L) : FOks (swapR none C i j L) := run_inv (fun _ L => FOks L) C 0 L h fun _ _ _ _ h => swapP_oks h
theorem getD_of_lt {α : Type} {l : List α} {n : Nat} (d : α) (h : n < l.length) : l[n]? = some (l.getD n d) := by simp [List.getD, h]
theorem fin_all {L : List F} : L.all fin32 = true ↔ ∀ n, n < L.length → fin32 (L.getD n none) = true := by
  rw [List.all_eq_true]
  constructor
  · intro h n hn; exact h _ (List.mem_of_getElem? (getD_of_lt none hn))
  · intro h c hc
    obtain ⟨n, hn, e⟩ := List.mem_iff_getElem.1 hc
    have := h n hn
    simpa [List.getD, hn, e] using this
theorem fin_set {L : List F} (h : L.all fin32 = true) {n : Nat} {x : F} (hx : fin32 x = true) : (L.set n x).all fin32 = true := by
  rw [List.all_eq_true] at h ⊢
  intro c hc
  rcases List.mem_or_eq_of_mem_set hc with h1 | h1
  · exact h c h1
  · exact h1 ▸ hx
theorem swapP_fin {A C i j c : Nat} {L : List F} (m : Mat A C L) (hi : i < A) (hj : j < A) (hc : c < C) (h : L.all fin32 = true) : (swapP none C i j c L).all fin32 = true :=
  fin_set (fin_set h (fin_all.1 h _ (m.lt hj hc))) (fin_all.1 h _ (m.lt hi hc))
theorem swapR_fin {A C i j : Nat} {L : List F} (m : Mat A C L) (hi : i < A) (hj : j < A) (h : L.all fin32 = true) : (swapR none C i j L).all fin32 = true :=
  (run_inv (fun _ L => Mat A C L ∧ L.all fin32 = true) C 0 L ⟨m, h⟩ fun _ _ _ hc h => ⟨swapP_mat h.1, swapP_fin h.1 hi hj (by omega) h.2⟩).2
theorem s_l03Swap_0p0_C02o1_3o2_eq {A C i j : Nat} {L : List F} (ord : List Int) (h : Mat A C L) (hi : i < A) (hj : j < A) : s_l03Swap_0p0_C02o1_3o2 (i : Int) (j : Int) (A : Int) (C : Int) L ord = some (swapR none C i j L, ord) := by
  have hC := h.C1
  obtain ⟨e, _⟩ := loop_run (step := s_l03Swap_0p0_C02o1_3o2_s1 (i : Int) (j : Int) (C : Int)) (fun c L => (L, (c : Int))) (swapP none C i j) (fun L => L) (fun _ L' => Mat A C L') (lo := 0) (n := C) (Nat.zero_le _) (s0 := L) h
    (fun c L' h1 h2 h3 => by
      refine ⟨?_, swapP_mat h3⟩
      show s_l03Swap_0p0_C02o1_3o2_b1 _ _ _ _ _ = _
      unfold s_l03Swap_0p0_C02o1_3o2_b1
      obtain ⟨e1, e2⟩ := idx_w h.A1 h.C1 hi h2
      obtain ⟨e3, e4⟩ := idx_w h.A1 h.C1 hj h2
      rw [dlt h2, bsel_true]
      simp only [e1, e2, e3, e4, olet_eq, at?_n none (h3.lt hi h2), at?_n none (h3.lt hj h2), obind_eq, setAt?_n _ (h3.lt hi h2), setAt?_n _ ((h3.set _ _ _).lt hj h2), wsucc (show c ≤ 1000000000 by omega)]
      rfl)
    (fun L' _ => by
      show s_l03Swap_0p0_C02o1_3o2_b1 _ _ _ _ _ = _
      unfold s_l03Swap_0p0_C02o1_3o2_b1
      rw [dnlt, bsel_false])
  unfold s_l03Swap_0p0_C02o1_3o2
  replace e : loopM (s_l03Swap_0p0_C02o1_3o2_s1 (i : Int) (j : Int) (C : Int)) (L, 0) = some (.inl (run (swapP none C i j) 0 (C - 0) L)) := e
  rw [e]; rfl
def tradeP (i j : Nat) (l : List Int) : List Int := (l.set i (l.getD j 0)).set j (l.getD i 0)
theorem tradeP_len (i j : Nat) (l : List Int) : (tradeP i j l).length = l.length := by simp [tradeP]
theorem s_l03Trade_0o_eq {i j : Nat} {l : List Int} (hi : i < l.length) (hj : j < l.length) : s_l03Trade_0o (i : Int) (j : Int) l = some (tradeP i j l) := by
  unfold s_l03Trade_0o
  rw [at?_n 0 hi, obind_eq, at?_n 0 hj, obind_eq, setAt?_n _ hi, obind_eq, setAt?_n _ (by simpa using hj)]
  rfl
def upTo (n : Nat) : List Int := (List.range n).map fun (i : Nat) => (i : Int)
theorem upTo_len (n : Nat) : (upTo n).length = n := by simp [upTo]
theorem run_upTo : ∀ n : Nat, run (fun (i : Nat) (l : List Int) => l ++ [(i : Int)]) 0 n [] = upTo n
  | 0 => rfl
  | n + 1 => by rw [run_last, run_upTo n]; simp [upTo, List.range_succ]
theorem s_l03Count_eq {n : Nat} (hn : n ≤ 12) : s_l03Count (n : Int) = some (upTo n) := by
  obtain ⟨e, _⟩ := loop_run (step := s_l03Count_s1 (n : Int)) (fun c L => (L, (c : Int))) (fun (i : Nat) (l : List Int) => l ++ [(i : Int)]) (fun L => L) (fun i L => L.length = i) (lo := 0) (n := n) (Nat.zero_le _) (s0 := []) rfl
    (fun c L h1 h2 h3 => by
      refine ⟨?_, by simp [h3]⟩
      show s_l03Count_b1 _ _ _ = _
      unfold s_l03Count_b1
      have ap : apok 8 L.length 1 = true := by simp [apok]; omega
      rw [dlt h2, bsel_true, ap, need_true, wsucc (by omega)]
      rfl)
    (fun L _ => by
      show s_l03Count_b1 _ _ _ = _
      unfold s_l03Count_b1
      rw [dnlt, bsel_false])
  unfold s_l03Count
  replace e : loopM (s_l03Count_s1 (n : Int)) ([], 0) = some (.inl (run (fun (i : Nat) (l : List Int) => l ++ [(i : Int)]) 0 (n - 0) [])) := e
  rw [e, Nat.sub_zero, run_upTo]; rfl
def elimE (C k r : Nat) (f : F) (j : Nat) (L : List F) : List F := sm L C r j (fop .sub .f32 (gm none L C r j) (fop .mul .f32 f (gm none L C k j)))
def elimRow (C k r : Nat) (L : List F) : List F := run (elimE C k r (fop .quo .f32 (gm none L C r k) (gm none L C k k))) (k + 1) (C - (k + 1)) (sm L C r k (fop .quo .f32 (gm none L C r k) (gm none L C k k)))
def elimP (A C k : Nat) (L : List F) : List F := run (elimRow C k) (k + 1) (A - (k + 1)) L
theorem elimE_mat {A C k r j : Nat} {f : F} {L : List F} (h : Mat A C L) : Mat A C (elimE C k r f j L) := h.set _ _ _
theorem elimE_oks {C k r j : Nat} {f : F} {L : List F} (h : FOks L) : FOks (elimE C k r f j L) := h.set (fop_fok _ _ _)
theorem elimRow_mat {A C k r : Nat} {L : List F} (h : Mat A C L) : Mat A C (elimRow C k r L) := run_inv (fun _ L => Mat A C L) _ _ _ (h.set _ _ _) fun _ _ _ _ h => elimE_mat h
theorem elimRow_oks {C k r : Nat} {L : List F} (h : FOks L) : FOks (elimRow C k r L) := run_inv (fun _ L => FOks L) _ _ _ (h.set (fop_fok _ _ _)) fun _ _ _ _ h => elimE_oks h
theorem elimP_mat {A C k : Nat} {L : List F} (h : Mat A C L) : Mat A C (elimP A C k L) := run_inv (fun _ L => Mat A C L) _ _ _ h fun _ _ _ _ h => elimRow_mat h
theorem elimP_oks {A C k : Nat} {L : List F} (h : FOks L) : FOks (elimP A C k L) := run_inv (fun _ L => FOks L) _ _ _ h fun _ _ _ _ h => elimRow_oks h
theorem elimE_keep {A C k r j i c : Nat} {f : F} {L : List F} (h : Mat A C L) (hr : r < A) (hj : j < C) (hc : c < C) (hne : r ≠ i ∨ c < j) : gm none (elimE C k r f j L) C i c = gm none L C i c := by
  unfold elimE
  rw [gm_set h hr hj hc, if_neg]
  rintro ⟨rfl, rfl⟩
  rcases hne with h | h
  · exact h rfl
  · omega
theorem elimRow_keep {A C k r i c : Nat} {L : List F} (h : Mat A C L) (hr : r < A) (hk : k < C) (hc : c < C) (hne : r ≠ i) : gm none (elimRow C k r L) C i c = gm none L C i c := by
  unfold elimRow
  have h1 := run_inv (f := elimE C k r (fop .quo .f32 (gm none L C r k) (gm none L C k k))) (fun _ L' => Mat A C L' ∧ gm none L' C i c = gm none L C i c) (C - (k + 1)) (k + 1) (sm L C r k (fop .quo .f32 (gm none L C r k) (gm none L C k k)))
    ⟨h.set _ _ _, by rw [gm_set h hr hk hc, if_neg (fun e => hne e.1)]⟩ (fun j L' a b hI => ⟨elimE_mat hI.1, by rw [elimE_keep hI.1 hr (by omega) hc (.inl hne)]; exact hI.2⟩)
  exact h1.2
theorem fin_not {A C : Nat} {L : List F} (h : Mat A C L) {i c : Nat} (hi : i < A) (hc : c < C) (hx : fin32 (gm none L C i c) = false) : L.all fin32 = false := by
  cases e : L.all fin32 with
  | false => rfl
  | true => have := fin_all.1 e _ (h.lt hi hc); rw [hx] at this; cases this
theorem s_l03Clear_0p0_C02o1_3o2_eq {A C k : Nat} {L : List F} (ord : List Int) (g : FOks L) (hfin : L.all fin32 = true) (h : Mat A C L) (hkA : k < A) (hkC : k < C) :
    (s_l03Clear_0p0_C02o1_3o2 (k : Int) (A : Int) (C : Int) L ord = some (true, elimP A C k L, ord) ∧ (elimP A C k L).all fin32 = true) ∨ (∃ L', s_l03Clear_0p0_C02o1_3o2 (k : Int) (A : Int) (C : Int) L ord = some (false, L', ord) ∧ L'.length = L.length ∧ (elimP A C k L).all fin32 = false) := by
  have hC := h.C1
  have hA := h.A1
  -- one row, number by number
  let fE : Nat → F → Nat → List F → List F ⊕ (Bool × List F × List Int) := fun r f j L2 => if fin32 (fop .sub .f32 (gm none L2 C r j) (fop .mul .f32 f (gm none L2 C k j))) = true then .inl (elimE C k r f j L2) else .inr (false, elimE C k r f j L2, ord)
  have inner : ∀ (r : Nat) (f : F) (L' : List F), k < r → r < A → Mat A C L' → FOks L' → L'.all fin32 = true →
      (loopM (s_l03Clear_0p0_C02o1_3o2_s2 (k : Int) (C : Int) ord (r : Int) f) (L', ((k + 1 : Nat) : Int)) = some (.inl (run (elimE C k r f) (k + 1) (C - (k + 1)) L')) ∧ (run (elimE C k r f) (k + 1) (C - (k + 1)) L').all fin32 = true) ∨
      (∃ L'', loopM (s_l03Clear_0p0_C02o1_3o2_s2 (k : Int) (C : Int) ord (r : Int) f) (L', ((k + 1 : Nat) : Int)) = some (.inr (false, L'', ord)) ∧ L''.length = L.length ∧ ∃ c, c < C ∧ fin32 (gm none (run (elimE C k r f) (k + 1) (C - (k + 1)) L') C r c) = false) := by
    intro r f L' hkr hr hL' hg' hf'
    have hstep : ∀ (j : Nat) (L2 : List F), k + 1 ≤ j → j < C → Mat A C L2 ∧ FOks L2 ∧ L2.all fin32 = true →
        (∃ s', fE r f j L2 = .inl s' ∧ s_l03Clear_0p0_C02o1_3o2_s2 (k : Int) (C : Int) ord (r : Int) f (L2, (j : Int)) = some (.next (s', ((j + 1 : Nat) : Int))) ∧ (Mat A C s' ∧ FOks s' ∧ s'.all fin32 = true)) ∨ (∃ q, fE r f j L2 = .inr q ∧ s_l03Clear_0p0_C02o1_3o2_s2 (k : Int) (C : Int) ord (r : Int) f (L2, (j : Int)) = some (.ret q)) := by
      intro j L2 h1 h2 ⟨h3, h4, h5⟩
      have hb : s_l03Clear_0p0_C02o1_3o2_s2 (k : Int) (C : Int) ord (r : Int) f (L2, (j : Int)) = bsel (fin32 (fop .sub .f32 (gm none L2 C r j) (fop .mul .f32 f (gm none L2 C k j)))) (some (.next (elimE C k r f j L2, ((j + 1 : Nat) : Int)))) (some (.ret (false, elimE C k r f j L2, ord))) := by
        show s_l03Clear_0p0_C02o1_3o2_b2 _ _ _ _ _ _ _ = _
        unfold s_l03Clear_0p0_C02o1_3o2_b2
        obtain ⟨e1, e2⟩ := idx_w h.A1 h.C1 hr h2
        obtain ⟨e3, e4⟩ := idx_w h.A1 h.C1 hkA h2
        rw [dlt h2, bsel_true]
        simp only [e1, e2, e3, e4, olet_eq, at?_n none (h3.lt hr h2), at?_n none (h3.lt hkA h2), obind_eq, setAt?_n _ (h3.lt hr h2), wsucc (show j ≤ 1000000000 by omega), s_l01Finite_eq (fop_fok .f32 _ _)]
        rfl
      cases hx : fin32 (fop .sub .f32 (gm none L2 C r j) (fop .mul .f32 f (gm none L2 C k j))) with
      | true =>
        refine .inl ⟨elimE C k r f j L2, by simp only [fE, hx, if_true], by rw [hb, hx, bsel_true], elimE_mat h3, elimE_oks h4, ?_⟩
        unfold elimE; exact fin_set h5 hx
      | false => exact .inr ⟨(false, elimE C k r f j L2, ord), by simp only [fE, hx]; rfl, by rw [hb, hx, bsel_false]⟩
    have hrun := runE_run (f := fE r f) (g := elimE C k r f) (fun _ L2 => Mat A C L2 ∧ FOks L2 ∧ L2.all fin32 = true) (fun j L2 => Mat A C L2 ∧ ∃ c, c < j ∧ c < C ∧ fin32 (gm none L2 C r c) = false) (fun q => ∃ L'', q = (false, L'', ord) ∧ L''.length = L.length) (C - (k + 1)) (k + 1) L' ⟨hL', hg', hf'⟩
      (fun j L2 h1 h2 ⟨h3, h4, h5⟩ => by
        cases hx : fin32 (fop .sub .f32 (gm none L2 C r j) (fop .mul .f32 f (gm none L2 C k j))) with
        | true =>
          refine .inl ⟨by simp only [fE, hx, if_true], elimE_mat h3, elimE_oks h4, ?_⟩
          unfold elimE; exact fin_set h5 hx
        | false =>
          refine .inr ⟨(false, elimE C k r f j L2, ord), by simp only [fE, hx]; rfl, ⟨_, rfl, by rw [(elimE_mat h3).len, h.len]⟩, elimE_mat h3, j, by omega, by omega, ?_⟩
          unfold elimE
          rw [gm_set h3 hr (by omega) (by omega), if_pos ⟨rfl, rfl⟩]; exact hx)
      (fun j L2 h1 h2 ⟨h3, c, h4, h5, h6⟩ => ⟨elimE_mat h3, c, by omega, h5, by rw [elimE_keep h3 hr (by omega) h5 (.inr h4)]; exact h6⟩)
    rcases loop_runE (step := s_l03Clear_0p0_C02o1_3o2_s2 (k : Int) (C : Int) ord (r : Int) f) (fun j L => (L, (j : Int))) (fE r f) (fun L => L) (fun _ L2 => Mat A C L2 ∧ FOks L2 ∧ L2.all fin32 = true) (lo := k + 1) (n := C) hkC (s0 := L') ⟨hL', hg', hf'⟩ hstep
      (fun L2 _ => by
        show s_l03Clear_0p0_C02o1_3o2_b2 _ _ _ _ _ _ _ = _
        unfold s_l03Clear_0p0_C02o1_3o2_b2
        rw [dnlt, bsel_false]) with ⟨s', e1, e2, e3⟩ | ⟨q, e1, e2⟩
    · rcases hrun with ⟨h1, h2⟩ | ⟨q, h1, _⟩
      · rw [e1] at h1
        have := Sum.inl.inj h1
        subst this
        exact .inl ⟨e2, h2.2.2⟩
      · rw [e1] at h1; cases h1
    · rcases hrun with ⟨h1, h2⟩ | ⟨q', h1, ⟨L'', h2, h3⟩, h4, c, _, h5, h6⟩
      · rw [e1] at h1; cases h1
      · rw [e1] at h1
        have := Sum.inr.inj h1
        subst this
        exact .inr ⟨L'', by rw [e2, h2], h3, c, h5, h6⟩
  -- row by row
  let gR : Nat → List F → List F ⊕ (Bool × List F × List Int) := fun r L2 =>
    match s_l03Clear_0p0_C02o1_3o2_s3 (k : Int) (A : Int) (C : Int) ord (L2, (r : Int)) with
    | some (.next s) => .inl s.1
    | some (.ret q) => .inr q
    | _ => .inl L2
  have hrow : ∀ (r : Nat) (L2 : List F), k + 1 ≤ r → r < A → Mat A C L2 ∧ FOks L2 ∧ L2.all fin32 = true →
      (s_l03Clear_0p0_C02o1_3o2_s3 (k : Int) (A : Int) (C : Int) ord (L2, (r : Int)) = some (.next (elimRow C k r L2, ((r + 1 : Nat) : Int))) ∧ (elimRow C k r L2).all fin32 = true) ∨
      (∃ L'', s_l03Clear_0p0_C02o1_3o2_s3 (k : Int) (A : Int) (C : Int) ord (L2, (r : Int)) = some (.ret (false, L'', ord)) ∧ L''.length = L.length ∧ ∃ c, c < C ∧ fin32 (gm none (elimRow C k r L2) C r c) = false) := by
    intro r L2 h1 h2 ⟨h3, h4, h5⟩
    obtain ⟨e1, e2⟩ := idx_w h.A1 h.C1 h2 hkC
    obtain ⟨e3, e4⟩ := idx_w h.A1 h.C1 hkA hkC
    have hb : s_l03Clear_0p0_C02o1_3o2_s3 (k : Int) (A : Int) (C : Int) ord (L2, (r : Int)) = bsel (fin32 (fop .quo .f32 (gm none L2 C r k) (gm none L2 C k k)))
        (obind (loopM (s_l03Clear_0p0_C02o1_3o2_s2 (k : Int) (C : Int) ord (r : Int) (fop .quo .f32 (gm none L2 C r k) (gm none L2 C k k))) (sm L2 C r k (fop .quo .f32 (gm none L2 C r k) (gm none L2 C k k)), ((k + 1 : Nat) : Int))) fun z => osum z (fun e => s_l03Clear_0p0_C02o1_3o2_k2 (r : Int) e) (fun r => some (LR.ret r)))
        (some (.ret (false, sm L2 C r k (fop .quo .f32 (gm none L2 C r k) (gm none L2 C k k)), ord))) := by
      show s_l03Clear_0p0_C02o1_3o2_b3 _ _ _ _ _ _ = _
      unfold s_l03Clear_0p0_C02o1_3o2_b3
      rw [dlt h2, bsel_true]
      simp only [e1, e2, e3, e4, olet_eq, at?_n none (h3.lt h2 hkC), at?_n none (h3.lt hkA hkC), obind_eq, setAt?_n _ (h3.lt h2 hkC), wsucc (show k ≤ 1000000000 by omega), s_l01Finite_eq (fop_fok .f32 _ _)]
    rw [hb]
    cases hx : fin32 (fop .quo .f32 (gm none L2 C r k) (gm none L2 C k k)) with
    | true =>
      rw [bsel_true]
      rcases inner r (fop .quo .f32 (gm none L2 C r k) (gm none L2 C k k)) (sm L2 C r k (fop .quo .f32 (gm none L2 C r k) (gm none L2 C k k))) (by omega) h2 (h3.set _ _ _) (h4.set (fop_fok _ _ _)) (fin_set h5 hx) with ⟨i1, i2⟩ | ⟨L'', i1, i2, c, i3, i4⟩
      · refine .inl ⟨?_, i2⟩
        rw [i1, obind_eq, osum_inl]
        unfold s_l03Clear_0p0_C02o1_3o2_k2
        rw [wsucc (by omega)]; rfl
      · exact .inr ⟨L'', by rw [i1]; rfl, i2, c, i3, i4⟩
    | false =>
      rw [bsel_false]
      refine .inr ⟨_, rfl, by rw [(h3.set _ _ _).len, h.len], k, hkC, ?_⟩
      unfold elimRow
      have hkeep := run_inv (f := elimE C k r (fop .quo .f32 (gm none L2 C r k) (gm none L2 C k k))) (fun j L' => Mat A C L' ∧ k < j ∧ gm none L' C r k = fop .quo .f32 (gm none L2 C r k) (gm none L2 C k k)) (C - (k + 1)) (k + 1) (sm L2 C r k (fop .quo .f32 (gm none L2 C r k) (gm none L2 C k k)))
        ⟨h3.set _ _ _, by omega, by rw [gm_set h3 h2 hkC hkC, if_pos ⟨rfl, rfl⟩]⟩ (fun j L' a b hI => ⟨elimE_mat hI.1, by omega, by rw [elimE_keep hI.1 h2 (by omega) hkC (.inr hI.2.1)]; exact hI.2.2⟩)
      rw [hkeep.2.2]; exact hx
  have hrun := runE_run (f := gR) (g := elimRow C k) (fun _ L2 => Mat A C L2 ∧ FOks L2 ∧ L2.all fin32 = true) (fun j L2 => Mat A C L2 ∧ ∃ r c, r < j ∧ r < A ∧ c < C ∧ fin32 (gm none L2 C r c) = false) (fun q => ∃ L'', q = (false, L'', ord) ∧ L''.length = L.length) (A - (k + 1)) (k + 1) L ⟨h, g, hfin⟩
    (fun r L2 h1 h2 h3 => by
      rcases hrow r L2 h1 (by omega) h3 with ⟨i1, i2⟩ | ⟨L'', i1, i2, c, i3, i4⟩
      · exact .inl ⟨by simp only [gR, i1], elimRow_mat h3.1, elimRow_oks h3.2.1, i2⟩
      · exact .inr ⟨(false, L'', ord), by simp only [gR, i1], ⟨L'', rfl, i2⟩, elimRow_mat h3.1, r, c, by omega, by omega, i3, i4⟩)
    (fun j L2 h1 h2 ⟨h3, r, c, h4, h5, h6, h7⟩ => ⟨elimRow_mat h3, r, c, by omega, h5, h6, by rw [elimRow_keep h3 (by omega) hkC h6 (by omega)]; exact h7⟩)
  have hE : k + 1 + (A - (k + 1)) = A := by omega
  rw [hE] at hrun
  rcases loop_runE (step := s_l03Clear_0p0_C02o1_3o2_s3 (k : Int) (A : Int) (C : Int) ord) (fun j L => (L, (j : Int))) gR (fun L => L) (fun _ L2 => Mat A C L2 ∧ FOks L2 ∧ L2.all fin32 = true) (lo := k + 1) (n := A) hkA (s0 := L) ⟨h, g, hfin⟩
    (fun r L2 h1 h2 h3 => by
      rcases hrow r L2 h1 h2 h3 with ⟨i1, i2⟩ | ⟨L'', i1, i2, c, i3, i4⟩
      · exact .inl ⟨elimRow C k r L2, by simp only [gR, i1], i1, elimRow_mat h3.1, elimRow_oks h3.2.1, i2⟩
      · exact .inr ⟨(false, L'', ord), by simp only [gR, i1], i1⟩)
    (fun L2 _ => by
      show s_l03Clear_0p0_C02o1_3o2_b3 _ _ _ _ _ _ = _
      unfold s_l03Clear_0p0_C02o1_3o2_b3
      rw [dnlt, bsel_false]) with ⟨s', e1, e2, e3⟩ | ⟨q, e1, e2⟩
  · rcases hrun with ⟨h1, h2⟩ | ⟨q, h1, _⟩
    · rw [e1] at h1
      have := Sum.inl.inj h1
      subst this
      refine .inl ⟨?_, h2.2.2⟩
      unfold s_l03Clear_0p0_C02o1_3o2
      rw [wsucc (by omega), olet_eq, e2]; rfl
    · rw [e1] at h1; cases h1
  · rcases hrun with ⟨h1, h2⟩ | ⟨q', h1, ⟨L'', h2, h3⟩, h4, r, c, _, h5, h6, h7⟩
    · rw [e1] at h1; cases h1
    · rw [e1] at h1
      have := Sum.inr.inj h1
      subst this
      refine .inr ⟨L'', ?_, h3, fin_not h4 h5 h6 h7⟩
      unfold s_l03Clear_0p0_C02o1_3o2
      rw [wsucc (by omega), olet_eq, e2, h2]; rfl
theorem s_l02Square_eq (a0 a1 : Int) {a2 : List F} (g2 : FOks a2) (s2 : a2.length ≤ 1048576) : s_l02Square a0 a1 a2 = some (validM a0 a1 a2 && decide (a0 = a1)) := by
  unfold s_l02Square
  rw [s_l02Is_eq a0 a1 g2 s2, obind_eq]
  cases validM a0 a1 a2 <;> rfl
theorem i_isSquare_eq (a0 a1 : Int) {a2 : List F} (g2 : FOks a2) (s2 : a2.length ≤ 1048576) : i_isSquare a0 a1 a2 = some (validM a0 a1 a2 && decide (a0 = a1)) := by
  unfold i_isSquare
  rw [i_ValidMatrix_eq a0 a1 g2 s2, obind_eq]
  cases validM a0 a1 a2 <;> rfl
theorem valid_mat {a0 a1 : Int} {a2 : List F} (h : validM a0 a1 a2 = true) : ∃ A C : Nat, a0 = (A : Int) ∧ a1 = (C : Int) ∧ 0 < A ∧ 0 < C ∧ Mat A C a2 ∧ a2.all fin32 = true := by
  simp only [validM, Bool.and_eq_true, decide_eq_true_eq] at h
  obtain ⟨⟨⟨v1, v2⟩, v3⟩, v4⟩ := h
  obtain ⟨A, rfl, A0, A1⟩ := side_nat v1
  obtain ⟨C, rfl, C0, C1⟩ := side_nat v2
  have hAC := small_mul A1 C1
  rw [← Int.natCast_mul, wn (by omega)] at v3
  exact ⟨A, C, rfl, rfl, A0, C0, ⟨A1, C1, by omega⟩, v4⟩
theorem mat_valid {A C : Nat} {L : List F} (h : Mat A C L) (hA : 0 < A) (hC : 0 < C) : validM (A : Int) (C : Int) L = L.all fin32 := by
  unfold validM side
  have hAC := small_mul h.A1 h.C1
  have h1 := h.A1
  have h2 := h.C1
  rw [← Int.natCast_mul, wn (by omega), h.len]
  have e1 : decide ((1 : Int) ≤ (A : Int)) = true := by simp; omega
  have e2 : decide ((A : Int) ≤ 12) = true := by simp; omega
  have e3 : decide ((1 : Int) ≤ (C : Int)) = true := by simp; omega
  have e4 : decide ((C : Int) ≤ 12) = true := by simp; omega
  rw [e1, e2, e3, e4]
  simp
theorem s_l02Own_eq (a0 a1 : Int) {L : List F} (h : L.length ≤ 1048576) : s_l02Own a0 a1 L = some (a0, a1, L) := by
  have ap : apok 4 0 L.length = true := by simp [apok]; omega
  unfold s_l02Own; rw [ap]; rfl
theorem i_Matrix_clone_eq (a0 a1 : Int) {L : List F} (h : L.length ≤ 1048576) : i_Matrix_clone a0 a1 L = some (a0, a1, L) := by
  have ap : apok 4 0 L.length = true := by simp [apok]; omega
  unfold i_Matrix_clone x_slices_Clone_float32_float32; rw [ap]; rfl
def frPick (n k p : Nat) (s : List F × List Int) : (List F × List Int) ⊕ (Int × Int × Bool × List F × List Int) :=
  bif feq .f32 (gm none s.1 n p k) (some 0) then .inr (0, 0, false, [], [])
  else bif (elimP n n k (swapR none n k p s.1)).all fin32 then .inl (elimP n n k (swapR none n k p s.1), tradeP k p s.2)
  else .inr (0, 0, false, [], [])
def frStep (n k : Nat) (s : List F × List Int) : (List F × List Int) ⊕ (Int × Int × Bool × List F × List Int) := frPick n k (run (findP n k s.1) (k + 1) (n - (k + 1)) k) s
structure FrInv (n : Nat) (s : List F × List Int) : Prop where
  m : Mat n n s.1
  g : FOks s.1
  f : s.1.all fin32 = true
  o : s.2.length = n
theorem s_FactorRows_step {n k : Nat} {s : List F × List Int} (r4 : List F) (r5 : List Int) (h4 : r4.length = n * n) (h5 : r5.length = n) (hk : k < n) (h : FrInv n s) :
    s_FactorRows_b1 (n : Int) (n : Int) (n : Int) r4 r5 s.1 s.2 (k : Int) = match frStep n k s with | .inl s' => some (.next (s'.1, s'.2, ((k + 1 : Nat) : Int))) | .inr q => some (.ret q) := by
  have hn := h.m.A1
  obtain ⟨p1, p2⟩ := s_l03Find_eq h.g h.m hk
  unfold s_FactorRows_b1 frStep
  rw [dlt hk, bsel_true, p1, obind_eq]
  generalize run (findP n k s.1) (k + 1) (n - (k + 1)) k = p at p2
  unfold frPick
  rw [s_l02At_eq _ h.m p2 hk, obind_eq]
  cases hz : feq .f32 (gm none s.1 n p k) (some 0) with
  | true => rfl
  | false =>
    rw [bsel_false, cond_false]
    have m1 : Mat n n (swapR none n k p s.1) := swapR_mat h.m
    have l1 : decide ((swapR none n k p s.1).length = r4.length) = true := by simp [m1.len, h4]
    have l2 : decide (s.2.length = r5.length) = true := by simp [h.o, h5]
    have l3 : decide ((tradeP k p s.2).length = r5.length) = true := by simp [tradeP_len, h.o, h5]
    have ho1 : k < s.2.length := by rw [h.o]; exact hk
    have ho2 : p < s.2.length := by rw [h.o]; exact p2
    rw [s_l03Swap_0p0_C02o1_3o2_eq _ h.m hk p2, obind2_eq, l1, need_true, l2, need_true, s_l03Trade_0o_eq ho1 ho2, obind_eq, l3, need_true]
    rcases s_l03Clear_0p0_C02o1_3o2_eq (tradeP k p s.2) (swapR_oks h.g) (swapR_fin h.m hk p2 h.f) m1 hk hk with ⟨c1, c2⟩ | ⟨L', c1, c2, c3⟩
    · have l4 : decide ((elimP n n k (swapR none n k p s.1)).length = r4.length) = true := by simp [(elimP_mat m1).len, h4]
      rw [c1, obind3_eq, l4, need_true, l3, need_true, c2, wsucc (by omega)]
      rfl
    · have l4 : decide (L'.length = r4.length) = true := by simp [c2, m1.len, h4]
      rw [c1, obind3_eq, l4, need_true, l3, need_true, c3]
      rfl
theorem frStep_inv {n k : Nat} {s s' : List F × List Int} (hk : k < n) (h : FrInv n s) (e : frStep n k s = .inl s') : FrInv n s' := by
  have p2 := (s_l03Find_eq h.g h.m hk).2
  unfold frStep at e
  generalize run (findP n k s.1) (k + 1) (n - (k + 1)) k = p at e p2
  unfold frPick at e
  cases hz : feq .f32 (gm none s.1 n p k) (some 0) with
  | true => rw [hz, cond_true] at e; cases e
  | false =>
    rw [hz, cond_false] at e
    cases hf : (elimP n n k (swapR none n k p s.1)).all fin32 with
    | false => rw [hf, cond_false] at e; cases e
    | true =>
      rw [hf, cond_true] at e
      cases e
      exact ⟨elimP_mat (swapR_mat h.m), elimP_oks (swapR_oks h.g), hf, by rw [tradeP_len]; exact h.o⟩
theorem i_newMatrix_eq {A C : Nat} (hA : A ≤ 12) (hC : C ≤ 12) : i_newMatrix (A : Int) (C : Int) = some ((A : Int), (C : Int), List.replicate (A * C) (some 0)) := by
  have hAC := small_mul hA hC
  unfold i_newMatrix
  have mk : mkok 4 ((A * C : Nat) : Int) = true := by simp [mkok]; omega
  rw [← Int.natCast_mul, wn (by omega), olet_eq, mk]; rfl
theorem mat_ext {A C : Nat} {L L' : List F} (h : Mat A C L) (h' : Mat A C L') (e : ∀ i k, i < A → k < C → gm none L C i k = gm none L' C i k) : L = L' := by
  apply List.ext_getElem?
  intro q
  by_cases hq : q < A * C
  · have hC : 0 < C := by
      rcases Nat.eq_zero_or_pos C with h0 | h0
      · subst h0; simp at hq
      · exact h0
    have h1 : q / C < A := (Nat.div_lt_iff_lt_mul hC).2 hq
    have h2 : q % C < C := Nat.mod_lt _ hC
    have h3 : q / C * C + q % C = q := by rw [Nat.mul_comm]; exact Nat.div_add_mod q C
    have := e _ _ h1 h2
    unfold gm at this
    rw [h3] at this
    rw [getD_of_lt none (by rw [h.len]; exact hq), getD_of_lt none (by rw [h'.len]; exact hq), this]
  · rw [List.getElem?_eq_none (by rw [h.len]; omega), List.getElem?_eq_none (by rw [h'.len]; omega)]
theorem zmat {A C : Nat} (hA : A ≤ 12) (hC : C ≤ 12) : Mat A C (List.replicate (A * C) (some 0 : F)) := ⟨hA, hC, by simp⟩
theorem run_map {α : Type} (f : Nat → α) : ∀ n : Nat, run (fun i (l : List α) => l ++ [f i]) 0 n [] = (List.range n).map f
  | 0 => rfl
  | n + 1 => by rw [run_last, run_map f n]; simp [List.range_succ]
def colP (A C k : Nat) (L : List F) : List F := (List.range A).map fun i => gm none L C i k
theorem colP_len {A C k : Nat} {L : List F} : (colP A C k L).length = A := by simp [colP]
theorem colP_at {A C k i : Nat} {L : List F} (hi : i < A) : (colP A C k L).getD i none = gm none L C i k := by
  simp [colP, List.getD, hi]
theorem i_Matrix_column_eq {A C k : Nat} {L : List F} (h : Mat A C L) (hk : k < C) : i_Matrix_column (A : Int) (C : Int) L (k : Int) = some (colP A C k L) := by
  have hA := h.A1
  obtain ⟨e, _⟩ := loop_run (step := i_Matrix_column_s1 (A : Int) (C : Int) L (k : Int)) (fun (i : Nat) (l : List F) => (l, (i : Int))) (fun i l => l ++ [gm none L C i k]) (fun l => l) (fun i l => l.length = i) (lo := 0) (n := A) (Nat.zero_le _) (s0 := []) rfl
    (fun i l _ hi h3 => by
      refine ⟨?_, by simp [h3]⟩
      show i_Matrix_column_b1 _ _ _ _ _ _ = _
      unfold i_Matrix_column_b1
      have ap : apok 4 l.length 1 = true := by simp [apok]; omega
      rw [dlt hi, bsel_true, i_Matrix_at_eq _ h hi hk, obind_eq, ap, need_true, wsucc (by omega)]
      rfl)
    (fun l _ => by
      show i_Matrix_column_b1 _ _ _ _ _ _ = _
      unfold i_Matrix_column_b1
      rw [dnlt, bsel_false])
  unfold i_Matrix_column
  replace e : loopM (i_Matrix_column_s1 (A : Int) (C : Int) L (k : Int)) ([], 0) = some (.inl (run (fun i l => l ++ [gm none L C i k]) 0 (A - 0) [])) := e
  rw [e, Nat.sub_zero, run_map]; rfl
def dotE (f g : Nat → F) (i : Nat) (y : F) : F := fop .add .f32 y (fop .mul .f32 (f i) (g i))
def dotN (f g : Nat → F) (n : Nat) : F := run (dotE f g) 0 n (some 0)
theorem zero_ok : FOk .f32 (some 0) := ⟨0, rfl, by decide, rfl⟩
theorem dotN_ok (f g : Nat → F) (n : Nat) : FOk .f32 (dotN f g n) := run_inv (fun _ y => FOk .f32 y) n 0 (some 0) zero_ok fun _ _ _ _ _ => fop_fok _ _ _
theorem dotN_congr {f g f' g' : Nat → F} {n : Nat} (h : ∀ i, i < n → f i = f' i ∧ g i = g' i) : dotN f g n = dotN f' g' n :=
  run_congr (fun _ _ => True) n 0 _ trivial fun i y _ hi _ => ⟨by unfold dotE; rw [(h i (by omega)).1, (h i (by omega)).2], trivial⟩
theorem i_dot_eq {l m : List F} (hl : l.length ≤ m.length) (hs : l.length ≤ 1000000) : i_dot l m = some (dotN (fun i => l.getD i none) (fun i => m.getD i none) l.length) := by
  obtain ⟨e, _⟩ := loop_run (step := i_dot_s1 l m) (fun (i : Nat) (y : F) => (y, (i : Int))) (dotE (fun i => l.getD i none) (fun i => m.getD i none)) (fun y => y) (fun _ _ => True) (lo := 0) (n := l.length) (Nat.zero_le _) (s0 := some 0) trivial
    (fun i y _ hi _ => by
      refine ⟨?_, trivial⟩
      show i_dot_b1 _ _ _ _ = _
      unfold i_dot_b1
      rw [dlt hi, bsel_true, at?_n none hi, obind_eq, at?_n none (by omega), obind_eq, i_mul_eq, obind_eq, olet_eq, wsucc (by omega)]
      rfl)
    (fun y _ => by
      show i_dot_b1 _ _ _ _ = _
      unfold i_dot_b1
      rw [dnlt, bsel_false])
  unfold i_dot
  replace e : loopM (i_dot_s1 l m) (some 0, 0) = some (.inl (run (dotE (fun i => l.getD i none) (fun i => m.getD i none)) 0 (l.length - 0) (some 0))) := e
  rw [e]; rfl
theorem getD_gm {A C : Nat} {L : List F} {q : Nat} : gm none L C (q / C) (q % C) = L.getD q none := by
  unfold gm
  rw [show q / C * C + q % C = q by rw [Nat.mul_comm]; exact Nat.div_add_mod q C]
def coFind (L : List F) (q b : Nat) : Nat := bif flt .f32 (fabs32 (L.getD b none)) (fabs32 (L.getD q none)) then q else b
def coBest (L : List F) : Nat := run (coFind L) 0 L.length 0
theorem coFind_lt {L : List F} {q b : Nat} (hq : q < L.length) (hb : b < L.length) : coFind L q b < L.length := by
  unfold coFind
  cases flt .f32 (fabs32 (L.getD b none)) (fabs32 (L.getD q none)) <;> assumption
theorem coBest_lt {L : List F} (h0 : 0 < L.length) : coBest L < L.length :=
  run_inv (f := coFind L) (fun _ b => b < L.length) L.length 0 0 h0 fun j b _ h2 h3 => coFind_lt (by omega) h3
theorem tdiv_n (q C : Nat) : (q : Int).tdiv (C : Int) = ((q / C : Nat) : Int) := by rw [Int.tdiv_eq_ediv_of_nonneg (by omega), Int.natCast_ediv]
theorem tmod_n (q C : Nat) : (q : Int).tmod (C : Int) = ((q % C : Nat) : Int) := by rw [Int.tmod_eq_emod_of_nonneg (by omega), Int.natCast_emod]
theorem dne0 {C : Nat} (h : 0 < C) : (!decide ((C : Int) = 0)) = true := by simp; omega
theorem i_CrossOf_find {A C : Nat} {L r6 : List F} (m : Mat A C L) (g : FOks L) (h6 : r6.length = L.length) (h0 : 0 < A) (hC : 0 < C) : loopM (i_CrossOf_s7 (A : Int) (C : Int) r6 L) (0, 0, 0) = some (.inl (((coBest L / C : Nat) : Int), ((coBest L % C : Nat) : Int))) := by
  have hs := m.small
  have hpos : 0 < L.length := by rw [m.len]; exact Nat.mul_pos h0 hC
  have hdiv : ∀ b, b < L.length → b / C < A ∧ b % C < C := fun b hb => ⟨(Nat.div_lt_iff_lt_mul hC).2 (by rw [← m.len]; exact hb), Nat.mod_lt _ hC⟩
  obtain ⟨e, _⟩ := loop_run (step := i_CrossOf_s7 (A : Int) (C : Int) r6 L) (fun (q b : Nat) => (((b / C : Nat) : Int), ((b % C : Nat) : Int), (q : Int))) (coFind L) (fun (b : Nat) => (((b / C : Nat) : Int), ((b % C : Nat) : Int))) (fun _ b => b < L.length) (lo := 0) (n := L.length) (Nat.zero_le _) (s0 := 0) hpos
    (fun q b _ hq hb => by
      refine ⟨?_, coFind_lt hq hb⟩
      show i_CrossOf_b7 _ _ _ _ _ _ _ = _
      unfold i_CrossOf_b7
      obtain ⟨d1, d2⟩ := hdiv b hb
      have hqd := Nat.div_le_self q C
      rw [h6, dlt hq, bsel_true, at?_n none hq, obind_eq, i_absolute_eq (g.getD _), obind_eq, i_Matrix_at_eq _ m d1 d2, obind_eq, getD_gm (A := A), i_absolute_eq (g.getD _), obind_eq]
      simp only [dne0 hC, need_true, tdiv_n, tmod_n, olet_eq, wn (show q / C ≤ 9223372036854775807 by omega)]
      unfold i_CrossOf_k6 coFind
      rw [wsucc (by omega)]
      cases flt .f32 (fabs32 (L.getD b none)) (fabs32 (L.getD q none)) <;> rfl)
    (fun b _ => by
      show i_CrossOf_b7 _ _ _ _ _ _ _ = _
      unfold i_CrossOf_b7
      rw [h6, dnlt, bsel_false])
  have z1 : ((0 / C : Nat) : Int) = 0 := by simp
  have z2 : ((0 % C : Nat) : Int) = 0 := by simp
  rw [z1, z2] at e
  exact e
def coC (C : Nat) (R : List F) (i k : Nat) (p : F) (q : Nat) : F := fop .mul .f32 (fop .quo .f32 (gm none R C (q / C) k) p) (gm none R C i (q % C))
def coE (C : Nat) (R : List F) (i k : Nat) (p : F) (q : Nat) (s : List F × List F) : List F × List F := (s.1.set q (fop .sub .f32 (s.1.getD q none) (coC C R i k p q)), s.2.set q (fop .add .f32 (s.2.getD q none) (coC C R i k p q)))
def coTake (A C : Nat) (R : List F) (i k : Nat) (p : F) (s : List F × List F) : List F × List F := run (coE C R i k p) 0 (A * C) s
structure COp (A C : Nat) (s : List F × List F) : Prop where
  m : Mat A C s.1
  g : FOks s.1
  n : Mat A C s.2
  h : FOks s.2
theorem coE_inv {A C i k q : Nat} {R : List F} {p : F} {s : List F × List F} (h : COp A C s) : COp A C (coE C R i k p q s) :=
  ⟨⟨h.m.A1, h.m.C1, by simp [coE, h.m.len]⟩, h.g.set (fop_fok _ _ _), ⟨h.m.A1, h.m.C1, by simp [coE, h.n.len]⟩, h.h.set (fop_fok _ _ _)⟩
theorem coTake_inv {A C i k : Nat} {R : List F} {p : F} {s : List F × List F} (h : COp A C s) : COp A C (coTake A C R i k p s) := run_inv (fun _ s => COp A C s) _ _ _ h fun _ _ _ _ h => coE_inv h
def rowP (C i : Nat) (L : List F) : List F := (L.take ((i + 1) * C)).drop (i * C)
theorem rowP_at {A C i k : Nat} {L : List F} (m : Mat A C L) (hi : i < A) (hk : k < C) : (rowP C i L).getD k none = gm none L C i k := by
  have h1 := idx_lt hi hk
  have h2 : i * C + k < (i + 1) * C := by rw [Nat.add_mul, Nat.one_mul]; omega
  unfold rowP gm
  simp [List.getD, List.getElem?_drop, List.getElem?_take, h2]
theorem rowP_len {A C i : Nat} {L : List F} (m : Mat A C L) (hi : i < A) : (rowP C i L).length = C := by
  have h1 : (i + 1) * C ≤ A * C := Nat.mul_le_mul_right C hi
  unfold rowP
  rw [List.length_drop, List.length_take, m.len, Nat.min_eq_left h1, Nat.add_mul, Nat.one_mul]; omega
theorem sub?_n {α : Type} {L : List α} {a b : Nat} (h1 : a ≤ b) (h2 : b ≤ L.length) : sub? L (a : Int) (b : Int) = some ((L.take b).drop a) := by
  unfold sub?
  rw [if_pos (by omega)]; rfl
theorem i_Matrix_row_eq {A C i : Nat} {L : List F} (r : Int) (m : Mat A C L) (hi : i < A) : i_Matrix_row r (C : Int) L (i : Int) = some (rowP C i L) := by
  have hA := m.A1
  have h1 : (i + 1) * C ≤ A * C := Nat.mul_le_mul_right C hi
  have h2 : A * C ≤ 144 := small_mul m.A1 m.C1
  have h3 : i * C ≤ (i + 1) * C := Nat.mul_le_mul_right C (by omega)
  unfold i_Matrix_row x_slices_Clone_float32_float32
  rw [wsucc (by omega), ← Int.natCast_mul, wn (by omega), olet_eq, olet_eq, ← Int.natCast_mul, wn (by omega), olet_eq, sub?_n h3 (by rw [m.len]; exact h1), obind_eq]
  have ap : apok 4 0 ((L.take ((i + 1) * C)).drop (i * C)).length = true := by
    have := rowP_len m hi
    unfold rowP at this
    have hC := m.C1
    simp only [apok, this]; simp; omega
  rw [ap, need_true, obind_eq, List.nil_append]; rfl
theorem i_CrossOf_take {A C i k : Nat} {R r6 : List F} {p : F} {s : List F × List F} (mR : Mat A C R) (h6 : r6.length = A * C) (h : COp A C s) (hi : i < A) (hk : k < C) : loopM (i_CrossOf_s8 (C : Int) r6 p (rowP C i R) (colP A C k R)) (s.1, s.2, 0) = some (.inl (coTake A C R i k p s)) := by
  have hA := mR.A1
  have hC := mR.C1
  have hAC : A * C ≤ 144 := small_mul hA hC
  have hC0 : 0 < C := by omega
  exact (loop_run (step := i_CrossOf_s8 (C : Int) r6 p (rowP C i R) (colP A C k R)) (fun (q : Nat) (s : List F × List F) => (s.1, s.2, (q : Int))) (coE C R i k p) (fun s => s) (fun _ s => COp A C s) (lo := 0) (n := A * C) (Nat.zero_le _) (s0 := s) h
    (fun q s _ hq hs => by
      refine ⟨?_, coE_inv hs⟩
      show i_CrossOf_b8 _ _ _ _ _ _ _ _ = _
      unfold i_CrossOf_b8
      have d1 : q / C < A := (Nat.div_lt_iff_lt_mul hC0).2 hq
      have d2 : q % C < C := Nat.mod_lt _ hC0
      have l1 : q < s.1.length := by rw [hs.m.len]; exact hq
      have l2 : q < s.2.length := by rw [hs.n.len]; exact hq
      have c1 : q / C < (colP A C k R).length := by rw [colP_len]; exact d1
      have c2 : q % C < (rowP C i R).length := by rw [rowP_len mR hi]; exact d2
      rw [h6, dlt hq, bsel_true, dne0 hC0, need_true, tdiv_n, wn (by omega), olet_eq, at?_n none c1, obind_eq, olet_eq, need_true, tmod_n, olet_eq, at?_n none c2, obind_eq, i_mul_eq, obind_eq, at?_n none l2, obind_eq, olet_eq, setAt?_n _ l2, obind_eq, at?_n none l1, obind_eq, olet_eq, setAt?_n _ l1, obind_eq, wsucc (by omega), colP_at d1, rowP_at mR hi d2]
      rfl)
    (fun s _ => by
      show i_CrossOf_b8 _ _ _ _ _ _ _ _ = _
      unfold i_CrossOf_b8
      rw [h6, dnlt, bsel_false])).1
abbrev CO := (List F × List F) × List Int × List Int
abbrev COe := List F × List Int × List Int
abbrev COr := Int × Int × Bool × List F × List Int × List Int
structure CInv (A C j : Nat) (s : CO) : Prop where
  p : COp A C s.1
  r : s.2.1.length = j
  c : s.2.2.length = j
def coPick (A C : Nat) (near : F) (b : Nat) (s : CO) : LR CO COe COr :=
  bif fle .f32 (fabs32 (s.1.1.getD b none)) near then .out (s.1.2, s.2.1, s.2.2)
  else bif (coTake A C s.1.1 (b / C) (b % C) (s.1.1.getD b none) s.1).2.all fin32 && (coTake A C s.1.1 (b / C) (b % C) (s.1.1.getD b none) s.1).1.all fin32 then .next (coTake A C s.1.1 (b / C) (b % C) (s.1.1.getD b none) s.1, s.2.1 ++ [((b / C : Nat) : Int)], s.2.2 ++ [((b % C : Nat) : Int)])
  else .ret (0, 0, false, [], [], [])
def coStep (A C : Nat) (near : F) (_ : Nat) (s : CO) : LR CO COe COr := coPick A C near (coBest s.1.1) s
theorem i_CrossOf_step {A C j mm : Nat} {near : F} {s : CO} (r6 : List F) (h6 : r6.length = A * C) (h : CInv A C j s) (hA : 0 < A) (hC : 0 < C) (hj : j < mm) (hm : mm ≤ 12) :
    i_CrossOf_b9 near (mm : Int) (A : Int) (C : Int) r6 (A : Int) (C : Int) s.1.1 s.1.2 s.2.1 s.2.2 (j : Int) = some (lrmap (fun s => (s.1.1, s.1.2, s.2.1, s.2.2, ((j + 1 : Nat) : Int))) (coStep A C near j s)) := by
  have hs := h.p.m.small
  have hpos : 0 < s.1.1.length := by rw [h.p.m.len]; exact Nat.mul_pos hA hC
  have e2 := coBest_lt hpos
  have e1 := i_CrossOf_find (r6 := r6) h.p.m h.p.g (by rw [h6, h.p.m.len]) hA hC
  unfold i_CrossOf_b9 coStep
  rw [dlt hj, bsel_true, e1, obind_eq, osum_inl]
  generalize coBest s.1.1 = b at e2
  have d1 : b / C < A := (Nat.div_lt_iff_lt_mul hC).2 (by rw [← h.p.m.len]; exact e2)
  have d2 : b % C < C := Nat.mod_lt _ hC
  unfold i_CrossOf_k7 coPick
  rw [i_Matrix_at_eq _ h.p.m d1 d2, obind_eq, getD_gm (A := A), i_absolute_eq (h.p.g.getD _), obind_eq]
  cases fle .f32 (fabs32 (s.1.1.getD b none)) near with
  | true => rfl
  | false =>
    have hT := coTake_inv (i := b / C) (k := b % C) (R := s.1.1) (p := s.1.1.getD b none) h.p
    rw [bsel_false, cond_false, i_Matrix_row_eq _ h.p.m d1, obind_eq, i_Matrix_column_eq h.p.m d2, obind_eq, i_CrossOf_take h.p.m h6 h.p d1 d2, obind_eq, osum_inl]
    generalize coTake A C s.1.1 (b / C) (b % C) (s.1.1.getD b none) s.1 = t at hT
    unfold i_CrossOf_k8
    have ap1 : apok 8 s.2.1.length 1 = true := by simp [apok, h.r]; omega
    have ap2 : apok 8 s.2.2.length 1 = true := by simp [apok, h.c]; omega
    rw [i_ValidMatrix_eq _ _ hT.g hT.m.le, mat_valid hT.m hA hC, i_ValidMatrix_eq _ _ hT.h hT.n.le, mat_valid hT.n hA hC, obind_eq, obind_eq, ap1, ap2, need_true, need_true, wsucc (by omega)]
    cases t.1.all fin32 <;> cases t.2.all fin32 <;> rfl
theorem eq1 (i : Nat) : decide (((i + 1 : Nat) : Int) = 1) = !decide (0 < i) := by
  cases i with
  | zero => rfl
  | succ i => simp; omega
abbrev gI (l : List Int) (i : Nat) : Int := l.getD i 0
structure SpIn (S : Nat) (a1 a2 : List Int) : Prop where
  S1 : 1 ≤ S
  S2 : S ≤ 32
  l1 : a1.length = S + 1
  l2 : a2.length ≤ 512
  z : gI a1 0 = 0
  e : gI a1 S = (a2.length : Int)
structure SpGood (S : Nat) (a1 a2 : List Int) : Prop where
  s : ∀ i, i < S → gI a1 i ≤ gI a1 (i + 1)
  c : ∀ k, k < a2.length → 0 ≤ gI a2 k ∧ gI a2 k ≤ (S : Int) - 1
  o : ∀ i, i < S → ∀ k : Nat, gI a1 i < (k : Int) → (k : Int) < gI a1 (i + 1) → gI a2 (k - 1) < gI a2 k
theorem SpGood.mono {S : Nat} {a1 a2 : List Int} (h : SpGood S a1 a2) : ∀ (d i : Nat), i + d ≤ S → gI a1 i ≤ gI a1 (i + d)
  | 0, i, _ => Int.le_refl _
  | d + 1, i, hd => Int.le_trans (h.mono d i (by omega)) (h.s (i + d) (by omega))
theorem SpGood.lo {S : Nat} {a1 a2 : List Int} (h : SpGood S a1 a2) (i0 : SpIn S a1 a2) {i : Nat} (hi : i ≤ S) : 0 ≤ gI a1 i ∧ gI a1 i ≤ (a2.length : Int) := by
  have h1 := h.mono i 0 (by omega)
  have h2 := h.mono (S - i) i (by omega)
  rw [Nat.zero_add, i0.z] at h1
  rw [show i + (S - i) = S by omega, i0.e] at h2
  exact ⟨h1, h2⟩
def zipW (f : F → F → F) (n : Nat) (l m : List F) : List F := (List.range n).map fun i => f (l.getD i none) (m.getD i none)
def fms (t x y : F) : F := fop .sub .f32 x (fop .mul .f32 t y)
theorem x_slices_Clone_float32_float32_eq {a : List F} (h : a.length ≤ 1048576) : x_slices_Clone_float32_float32 a = some a := by
  unfold x_slices_Clone_float32_float32
  have ap : apok 4 0 a.length = true := by simp [apok]; omega
  rw [ap, need_true, List.nil_append]
structure SpOk (S : Nat) (a1 a2 : List Int) (a3 : List F) : Prop where
  i : SpIn S a1 a2
  g : SpGood S a1 a2
  l : a3.length = a2.length
theorem at?_i {α : Type} {L : List α} {v : Int} (d : α) (h0 : 0 ≤ v) (h : v.toNat < L.length) : at? L v = some (L.getD v.toNat d) := at?_of h0 (by simp [List.getD, h])
theorem SpOk.row {S : Nat} {a1 a2 : List Int} {a3 : List F} (h : SpOk S a1 a2 a3) {i : Nat} (hi : i < S) : 0 ≤ gI a1 i ∧ gI a1 i ≤ gI a1 (i + 1) ∧ gI a1 (i + 1) ≤ (a2.length : Int) :=
  ⟨(h.g.lo h.i (by omega)).1, h.g.s i hi, (h.g.lo h.i (i := i + 1) (by omega)).2⟩
abbrev GrS := List F × List F × List F × F
def gR (S : Nat) (q : List F) (t : F) (s : GrS) : List F := zipW (fms t) S s.2.1 q
def loK (a1 : List Int) (i : Nat) : Nat := (gI a1 i).toNat
def laK (a1 : List Int) (i : Nat) : Nat := (gI a1 (i + 1)).toNat - 1
structure Root (S : Nat) (a1 a2 : List Int) (a3 : List F) : Prop where
  ok : SpOk S a1 a2 a3
  low : ∀ i, i < S → gI a1 i ≤ gI a1 (i + 1) - 1 ∧ gI a2 (laK a1 i) = (i : Int)
theorem Root.at {S : Nat} {a1 a2 : List Int} {a3 : List F} (h : Root S a1 a2 a3) {i : Nat} (hi : i < S) : loK a1 i ≤ laK a1 i ∧ laK a1 i < a2.length ∧ ((laK a1 i : Nat) : Int) = gI a1 (i + 1) - 1 ∧ ((loK a1 i : Nat) : Int) = gI a1 i := by
  obtain ⟨r1, r2, r3⟩ := h.ok.row hi
  obtain ⟨q1, _⟩ := h.low i hi
  unfold loK laK
  omega
def vget (v : List F) (x : Int) : F := v.getD x.toNat none
def Names (n : Nat) (L : List Int) : Prop := ∀ x ∈ L, 0 ≤ x ∧ x < (n : Int)
theorem Names.at {n : Nat} {L : List Int} (h : Names n L) {j : Nat} (hj : j < L.length) : 0 ≤ L.getD j 0 ∧ L.getD j 0 < (n : Int) := by
  rw [List.getD_eq_getElem?_getD, List.getElem?_eq_getElem hj]
  exact h _ (List.getElem_mem hj)
theorem Names.set {n : Nat} {L : List Int} (h : Names n L) {j : Nat} {x : Int} (hx : 0 ≤ x ∧ x < (n : Int)) : Names n (L.set j x) := fun y hy => (List.mem_or_eq_of_mem_set hy).elim (fun k => h y k) (fun k => by rw [k]; exact hx)
def diagL (n : Nat) (L : List F) : List F := (List.range n).map fun i => gm none L n i i
theorem diagL_len {n : Nat} {L : List F} : (diagL n L).length = n := by simp [diagL]
theorem i_Matrix_middle_eq {n : Nat} {L : List F} (m : Mat n n L) : i_Matrix_middle (n : Int) (n : Int) L = some (diagL n L) := by
  have hn := m.A1
  have hm : imin (n : Int) (n : Int) = (n : Int) := by simp [imin]
  have e := (loop_run (step := i_Matrix_middle_s1 (n : Int) (n : Int) L) (fun (i : Nat) (l : List F) => (l, (i : Int))) (fun i l => l ++ [gm none L n i i]) (fun l => l) (fun i l => l.length = i) (lo := 0) (n := n) (Nat.zero_le _) (s0 := []) rfl
    (fun i l _ hi hl => by
      refine ⟨?_, by simp [hl]⟩
      show i_Matrix_middle_b1 _ _ _ _ _ = _
      unfold i_Matrix_middle_b1
      dsimp only
      have ap : apok 4 l.length 1 = true := by simp [apok, hl]; omega
      rw [hm, dlt hi, bsel_true, i_Matrix_at_eq _ m hi hi, obind_eq, ap, need_true, wsucc (by omega)]
      rfl)
    (fun l _ => by
      show i_Matrix_middle_b1 _ _ _ _ _ = _
      unfold i_Matrix_middle_b1
      rw [hm, dnlt, bsel_false])).1
  rw [Nat.sub_zero, run_map] at e
  unfold i_Matrix_middle
  replace e : loopM (i_Matrix_middle_s1 (n : Int) (n : Int) L) ([], 0) = some (.inl (diagL n L)) := e
  rw [e]; rfl
def swapG {α : Type} (d : α) (j : Nat) (L : List α) : List α := (L.set (j + 1) (L.getD j d)).set j (L.getD (j + 1) d)
def insG {α : Type} (d : α) (lt : α → α → Bool) : Nat → List α → List α
  | 0, L => L
  | j + 1, L => bif lt (L.getD (j + 1) d) (L.getD j d) then insG d lt j (swapG d j L) else L
theorem swapG_len {α : Type} {d : α} {j : Nat} {L : List α} : (swapG d j L).length = L.length := by simp [swapG]
theorem insG_len {α : Type} {d : α} {lt : α → α → Bool} : ∀ (j : Nat) (L : List α), (insG d lt j L).length = L.length
  | 0, _ => rfl
  | j + 1, L => by
    unfold insG
    cases lt (L.getD (j + 1) d) (L.getD j d) with
    | false => rfl
    | true => rw [cond_true, insG_len j, swapG_len]
theorem getD_appG {α : Type} {d : α} {P R : List α} {j : Nat} (h : j < P.length) : (P ++ R).getD j d = P.getD j d := by
  rw [List.getD_eq_getElem?_getD, List.getElem?_append_left h, ← List.getD_eq_getElem?_getD]
theorem swapG_app {α : Type} {d : α} {j : Nat} {P R : List α} (h : j + 1 < P.length) : swapG d j (P ++ R) = swapG d j P ++ R := by
  unfold swapG
  rw [getD_appG h, getD_appG (by omega), List.set_append_left _ _ h, List.set_append_left _ _ (by simp; omega)]
theorem insG_app {α : Type} {d : α} {lt : α → α → Bool} : ∀ (j : Nat) (P R : List α), j < P.length → insG d lt j (P ++ R) = insG d lt j P ++ R
  | 0, _, _, _ => rfl
  | j + 1, P, R, h => by
    unfold insG
    rw [getD_appG h, getD_appG (by omega)]
    cases lt (P.getD (j + 1) d) (P.getD j d) with
    | false => rfl
    | true => rw [cond_true, cond_true, swapG_app h]; exact insG_app j _ _ (by rw [swapG_len]; omega)
theorem swapG_end {α : Type} {d : α} (Q : List α) (a x : α) : swapG d Q.length (Q ++ [a, x]) = Q ++ [x, a] := by
  unfold swapG
  have e1 : (Q ++ [a, x]).getD Q.length d = a := by simp [List.getD_eq_getElem?_getD]
  have e2 : (Q ++ [a, x]).getD (Q.length + 1) d = x := by simp [List.getD_eq_getElem?_getD]
  rw [e1, e2, List.set_append_right _ _ (by omega), List.set_append_right _ _ (by omega)]
  simp
theorem insG_mem {α : Type} {d : α} {lt : α → α → Bool} : ∀ (j : Nat) (P : List α) (x : α), P.length = j → (insG d lt j (P ++ [x])).Perm (P ++ [x])
  | 0, _, _, _ => List.Perm.refl _
  | j + 1, P, x, h => by
    have hne : P ≠ [] := by intro e; rw [e] at h; cases h
    obtain ⟨Q, a, rfl⟩ : ∃ Q a, P = Q ++ [a] := ⟨P.dropLast, P.getLast hne, (List.dropLast_concat_getLast hne).symm⟩
    have hQ : Q.length = j := by simpa using h
    unfold insG
    have e0 : Q ++ [a] ++ [x] = Q ++ [a, x] := by simp
    have e1 : (Q ++ [a, x]).getD j d = a := by subst hQ; simp [List.getD_eq_getElem?_getD]
    have e2 : (Q ++ [a, x]).getD (j + 1) d = x := by subst hQ; simp [List.getD_eq_getElem?_getD]
    rw [e0, e1, e2]
    cases lt x a with
    | false => exact List.Perm.refl _
    | true =>
      rw [cond_true]
      have e3 : swapG d j (Q ++ [a, x]) = (Q ++ [x]) ++ [a] := by subst hQ; rw [swapG_end]; simp
      rw [e3, insG_app j _ _ (by simp; omega)]
      refine ((insG_mem j Q x hQ).append_right [a]).trans ?_
      rw [List.append_assoc]
      exact List.Perm.append_left Q (List.Perm.swap a x [])
def sortG {α : Type} (d : α) (lt : α → α → Bool) (L : List α) : Nat → List α
  | 0 => []
  | n + 1 => insG d lt n (sortG d lt L n ++ [L.getD n d])
theorem sortG_len {α : Type} {d : α} {lt : α → α → Bool} {L : List α} : ∀ n, (sortG d lt L n).length = n
  | 0 => rfl
  | n + 1 => by unfold sortG; rw [insG_len]; simp [sortG_len n]
theorem sortG_perm {α : Type} {d : α} {lt : α → α → Bool} {L : List α} : ∀ n, n ≤ L.length → (sortG d lt L n).Perm (L.take n)
  | 0, _ => by simp [sortG]
  | n + 1, h => by
    unfold sortG
    refine (insG_mem n _ _ (sortG_len n)).trans ?_
    rw [List.take_succ_eq_append_getElem (by omega)]
    have : L.getD n d = L[n] := by
      rw [List.getD_eq_getElem?_getD, List.getElem?_eq_getElem (by omega)]; rfl
    rw [this]
    exact (sortG_perm n (by omega)).append_right _
theorem sortG_mem {α : Type} {d : α} {lt : α → α → Bool} {L : List α} {n : Nat} (h : n ≤ L.length) {x : α} (hx : x ∈ sortG d lt L n) : x ∈ L := List.mem_of_mem_take ((sortG_perm n h).mem_iff.1 hx)
theorem wpredG {j : Nat} (h : j ≤ 1000000000) : IntKind.i64.wrap (((j + 1 : Nat) : Int) - 1) = (j : Int) := by rw [wrap_i64 (by omega) (by omega)]; omega
theorem loop_insG {α β ρ : Type} {d : α} {lt : α → α → Bool} {step : β × Int → Option (LR (β × Int) β ρ)} (f : List α → β) (h0 : ∀ L, step (f L, 0) = some (.out (f L))) (Ok : List α → Prop) (hok : ∀ j L, Ok L → j + 1 < L.length → Ok (swapG d j L))
    (hs : ∀ (j : Nat) (L : List α), Ok L → j + 1 < L.length → L.length ≤ 1000000 → step (f L, ((j + 1 : Nat) : Int)) = some (bif lt (L.getD (j + 1) d) (L.getD j d) then .next (f (swapG d j L), (j : Int)) else .out (f L))) :
    ∀ (j : Nat) (L : List α), Ok L → j < L.length → L.length ≤ 1000000 → loopM step (f L, (j : Int)) = some (.inl (f (insG d lt j L)))
  | 0, L, _, _, _ => loopM_out (h0 L)
  | j + 1, L, h, hj, hl => by
    have e := hs j L h hj hl
    unfold insG
    cases hc : lt (L.getD (j + 1) d) (L.getD j d) with
    | false => rw [hc, cond_false] at e; rw [loopM_out e]; rfl
    | true =>
      rw [hc, cond_true] at e
      rw [loopM_next e, cond_true]
      exact loop_insG f h0 Ok hok hs j _ (hok j L h hj) (by rw [swapG_len]; omega) (by rw [swapG_len]; omega)
theorem loop_sortG {α ρ : Type} {d : α} {lt : α → α → Bool} {step : List α × Int → Option (LR (List α × Int) (List α) ρ)} {R : List α} {n : Nat} (hR : R.length = n) (h0 : 0 < n)
    (hs : ∀ (i : Nat) (L : List α), 1 ≤ i → i < n → L.length = n → (∀ x ∈ L, x ∈ R) → step (L, (i : Int)) = some (.next (insG d lt i L, ((i + 1 : Nat) : Int)))) (he : ∀ L, step (L, (n : Int)) = some (.out L)) : loopM step (R, 1) = some (.inl (sortG d lt R n)) := by
  have hd : ∀ i, i < n → R.drop i = R.getD i d :: R.drop (i + 1) := fun i hi => by
    rw [List.drop_eq_getElem_cons (by omega)]
    congr 1
    rw [List.getD_eq_getElem?_getD, List.getElem?_eq_getElem (by omega)]; rfl
  have e := (loop_run (step := step) (fun (i : Nat) (_ : Unit) => (sortG d lt R i ++ R.drop i, (i : Int))) (fun _ _ => ()) (fun _ => sortG d lt R n) (fun _ _ => True) (lo := 1) (n := n) h0 (s0 := ()) trivial
    (fun i _ h1 hi _ => by
      refine ⟨?_, trivial⟩
      rw [hs i _ h1 hi (by rw [List.length_append, sortG_len, List.length_drop]; omega) (fun x hx => by
        rcases List.mem_append.1 hx with hx | hx
        · exact sortG_mem (by omega) hx
        · exact List.mem_of_mem_drop hx)]
      rw [hd i hi]
      have : sortG d lt R i ++ R.getD i d :: R.drop (i + 1) = (sortG d lt R i ++ [R.getD i d]) ++ R.drop (i + 1) := by simp
      rw [this, insG_app i _ _ (by simp [sortG_len])]
      rfl)
    (fun _ _ => by
      rw [he, List.drop_of_length_le (by omega), List.append_nil])).1
  have h1 : sortG d lt R 1 ++ R.drop 1 = R := by
    show [] ++ [R.getD 0 d] ++ R.drop 1 = R
    have := hd 0 h0
    rw [List.drop_zero] at this
    rw [List.nil_append, List.singleton_append, ← this]
  replace e : loopM step (sortG d lt R 1 ++ R.drop 1, 1) = some (.inl (sortG d lt R n)) := e
  rw [h1] at e
  exact e
theorem vget_mem {v : List F} {x : Int} (h0 : 0 ≤ x) (h1 : x < (v.length : Int)) : vget v x ∈ v := by
  unfold vget
  rw [List.getD_eq_getElem?_getD, List.getElem?_eq_getElem (by omega)]
  exact List.getElem_mem _
def wkey (c : F) : Nat := c.getD 0
def sqW (v : List F) (x : Int) : Nat := wkey (vget v x)
def SqOk (v : List F) : Prop := ∀ c ∈ v, ∃ b, c = some b ∧ b ≤ 2139095040
theorem SqOk.at {v : List F} (h : SqOk v) {x : Int} (h0 : 0 ≤ x) (h1 : x < (v.length : Int)) : vget v x = some (sqW v x) ∧ sqW v x ≤ 2139095040 := by
  obtain ⟨b, e, hb⟩ := h _ (vget_mem h0 h1)
  unfold sqW
  rw [e]; exact ⟨rfl, hb⟩
theorem upTo_getD {n m : Nat} (h : n < m) : (upTo m).getD n 0 = (n : Int) := by
  simp [upTo, List.getD_eq_getElem?_getD, List.getElem?_range, h]
def ltI (x y : Int) : Bool := decide (x < y)
theorem x_cmp_Less_int64_eq (x y : Int) : x_cmp_Less_int64 x y = some (ltI x y) := by
  unfold x_cmp_Less_int64 x_cmp_isNaN_int64
  rw [obind_eq, decide_eq_true (rfl : x = x)]
  rfl
theorem x_slices_insertionSortOrdered_int64_0o_eq {R : List Int} {n : Nat} (hR : R.length = n) (hn : n ≤ 12) : x_slices_insertionSortOrdered_int64_0o 0 (n : Int) R = some (sortG 0 ltI R n) := by
  have inner : ∀ (j : Nat) (L : List Int), j < L.length → L.length ≤ 1000000 → loopM (x_slices_insertionSortOrdered_int64_0o_s2 0) (L, (j : Int)) = some (.inl (insG 0 ltI j L)) := fun j L hj hl =>
    loop_insG (fun L => L) (fun L => by
      show x_slices_insertionSortOrdered_int64_0o_b2 _ _ _ = _
      unfold x_slices_insertionSortOrdered_int64_0o_b2
      rw [show decide ((0 : Int) < 0) = false from rfl, bsel_false]) (fun _ => True) (fun _ _ _ _ => trivial) (fun j L _ hj hl => by
      show x_slices_insertionSortOrdered_int64_0o_b2 _ _ _ = _
      unfold x_slices_insertionSortOrdered_int64_0o_b2
      dsimp only
      have hd : decide ((0 : Int) < ((j + 1 : Nat) : Int)) = true := decide_eq_true (by omega)
      have l1 : ∀ x : Int, j < (L.set (j + 1) x).length := fun x => by simp; omega
      rw [hd, bsel_true, at?_n 0 hj, obind_eq, wpredG (by omega), olet_eq, at?_n 0 (by omega), obind_eq, x_cmp_Less_int64_eq, obind_eq]
      cases ltI (L.getD (j + 1) 0) (L.getD j 0) with
      | false => rfl
      | true =>
        rw [bsel_true, olet_eq, olet_eq, at?_n 0 (by omega), obind_eq, obind_eq, setAt?_n _ hj, obind_eq, setAt?_n _ (l1 _), obind_eq, olet_eq]
        rfl) j L trivial hj hl
  unfold x_slices_insertionSortOrdered_int64_0o
  rw [show IntKind.i64.wrap (0 + 1) = 1 from rfl, olet_eq]
  have he : ∀ (L : List Int) (k : Int), (n : Int) ≤ k → x_slices_insertionSortOrdered_int64_0o_s3 0 (n : Int) (L, k) = some (.out L) := fun L k hk => by
    show x_slices_insertionSortOrdered_int64_0o_b3 _ _ _ _ = _
    unfold x_slices_insertionSortOrdered_int64_0o_b3
    dsimp only
    rw [show decide (k < (n : Int)) = false from decide_eq_false (by omega), bsel_false]
  by_cases h0 : 0 < n
  · have e := loop_sortG (d := 0) (lt := ltI) (step := x_slices_insertionSortOrdered_int64_0o_s3 0 (n : Int)) hR h0
      (fun i L h1 hi hl _ => by
        show x_slices_insertionSortOrdered_int64_0o_b3 _ _ _ _ = _
        unfold x_slices_insertionSortOrdered_int64_0o_b3
        dsimp only
        rw [dlt hi, bsel_true, inner i L (by omega) (by omega), obind_eq, osum_inl]
        unfold x_slices_insertionSortOrdered_int64_0o_k2
        rw [wsucc (by omega)]; rfl)
      (fun L => he L n (Int.le_refl _))
    rw [e]; rfl
  · have hn0 : n = 0 := by omega
    subst hn0
    have : R = [] := List.length_eq_zero_iff.1 hR
    subst this
    rw [loopM_out (he [] 1 (by omega))]; rfl
theorem bitsLen_some {n : Nat} (h : n ≤ 12) : ∃ r, x_math_bits_Len (n : Int) = some r := by
  have hn : n = 0 ∨ n = 1 ∨ n = 2 ∨ n = 3 ∨ n = 4 ∨ n = 5 ∨ n = 6 ∨ n = 7 ∨ n = 8 ∨ n = 9 ∨ n = 10 ∨ n = 11 ∨ n = 12 := by omega
  have : (x_math_bits_Len (n : Int)).isSome = true := by
    rcases hn with rfl | rfl | rfl | rfl | rfl | rfl | rfl | rfl | rfl | rfl | rfl | rfl | rfl <;> kernel_rfl
  exact Option.isSome_iff_exists.1 this
theorem x_slices_Sort_int64_int64_0o_eq {R : List Int} (hn : R.length ≤ 12) : x_slices_Sort_int64_int64_0o R = some (sortG 0 ltI R R.length) := by
  unfold x_slices_Sort_int64_int64_0o x_slices_pdqsortOrdered_int64_0o
  obtain ⟨r, hr⟩ := bitsLen_some hn
  have hw : IntKind.u64.wrap ((R.length : Nat) : Int) = ((R.length : Nat) : Int) := by
    simp only [IntKind.wrap, IntKind.bits, IntKind.signed]
    simp
    omega
  have e : loopM (x_slices_pdqsortOrdered_int64_0o_s1 0 ((R.length : Nat) : Int) r R) () = some (.inr (sortG 0 ltI R R.length)) := by
    refine loopM_ret ?_
    show x_slices_pdqsortOrdered_int64_0o_b1 _ _ _ _ = _
    unfold x_slices_pdqsortOrdered_int64_0o_b1
    have h1 : IntKind.i64.wrap ((R.length : Int) - 0) = (R.length : Int) := by rw [wrap_i64 (by omega) (by omega)]; omega
    rw [h1, olet_eq, show decide ((R.length : Int) ≤ 12) = true from decide_eq_true (by omega), bsel_true, x_slices_insertionSortOrdered_int64_0o_eq rfl hn, obind_eq, sortG_len, decide_eq_true rfl, need_true]
  rw [hw, olet_eq, hr, obind_eq, e, obind_eq, osum_inr, obind_eq, sortG_len, decide_eq_true rfl, need_true]
def setAll (g : Nat → F → F) (n : Nat) (L : List F) : List F := run (fun q L => L.set q (g q (L.getD q none))) 0 n L
theorem setAll_spec (g : Nat → F → F) (n : Nat) (L : List F) (hn : n ≤ L.length) : (setAll g n L).length = L.length ∧ ∀ q, q < n → (setAll g n L).getD q none = g q (L.getD q none) := by
  have := run_inv (f := fun q L => L.set q (g q (L.getD q none))) (fun c (L' : List F) => L'.length = L.length ∧ ∀ q, q < L.length → L'.getD q none = if q < c then g q (L.getD q none) else L.getD q none) n 0 L ⟨rfl, fun q _ => by simp⟩ (fun c L' _ hc hI => by
    refine ⟨by simp [hI.1], fun q hq => ?_⟩
    have hc' : c < L'.length := by omega
    rw [List.getD_eq_getElem?_getD, List.getElem?_set]
    by_cases e : c = q
    · subst e
      rw [if_pos rfl, if_pos hc', if_pos (by omega), hI.2 c hq, if_neg (by omega)]
      rfl
    · rw [if_neg e, ← List.getD_eq_getElem?_getD, hI.2 q hq]
      by_cases h : q < c
      · rw [if_pos h, if_pos (by omega)]
      · rw [if_neg h, if_neg (by omega)])
  rw [Nat.zero_add] at this
  refine ⟨this.1, fun q hq => ?_⟩
  have := this.2 q (by omega)
  rw [if_pos hq] at this
  exact this
def ordB (l : List Int) : Bool := decide (1 ≤ l.length) && (decide (l.length ≤ 12) && decide (sortG 0 ltI l l.length = upTo l.length))
theorem x_slices_Sorted_eq {l : List Int} (h : l.length ≤ 12) : x_slices_Sorted_int64_0Fx_slices_Values_int64_int64_1 l = some (sortG 0 ltI l l.length) := by
  unfold x_slices_Sorted_int64_0Fx_slices_Values_int64_int64_1 x_slices_Collect_int64_0Fx_slices_Values_int64_int64_1 x_slices_AppendSeq
  rw [show decide ((l.length : Int) * 8 ≤ 140737488351232) = true from decide_eq_true (by omega), need_true, obind_eq, obind_eq, x_slices_Sort_int64_int64_0o_eq h, obind_eq, sortG_len, decide_eq_true rfl, need_true]
theorem i_IsOrder_eq (l : List Int) : i_IsOrder l = some (ordB l) := by
  unfold i_IsOrder i_length_int64 ordB
  rw [obind_eq, i_isSide_eq, obind_eq]
  unfold side
  by_cases h1 : 1 ≤ l.length
  · rw [decide_eq_true (show (1 : Int) ≤ (l.length : Int) by omega), decide_eq_true h1, Bool.true_and, Bool.true_and]
    by_cases h2 : l.length ≤ 12
    · rw [decide_eq_true (show (l.length : Int) ≤ 12 by omega), decide_eq_true h2, Bool.true_and, bsel_true]
      unfold i_isPermutation x_slices_Values_int64_int64
      rw [obind_eq, x_slices_Sorted_eq h2, obind_eq]
      have e := loop_eq (l := sortG 0 ltI l l.length) (m := upTo l.length) (by rw [sortG_len, upTo_len]) (step := i_isPermutation_s1 (sortG 0 ltI l l.length)) (fun v x y h0 h1 hx hy => by
        rw [sortG_len] at h1
        have hv : v = ((v.toNat : Nat) : Int) := by omega
        have hlt : v.toNat < l.length := by omega
        have hy : y = v := by
          have := upTo_getD hlt
          rw [List.getD_eq_getElem?_getD, hy] at this
          have : y = (v.toNat : Int) := this
          omega
        subst hy
        have ha : at? (sortG 0 ltI l l.length) y = some x := at?_of h0 hx
        show i_isPermutation_b1 _ _ = _
        unfold i_isPermutation_b1
        rw [sortG_len, show decide (y < ((l.length : Nat) : Int)) = true from decide_eq_true (by omega), bsel_true, ha, obind_eq, wrap_i64 (by omega) (by omega)]
        by_cases e : x = y
        · rw [if_pos e, decide_eq_true e]; rfl
        · rw [if_neg e, decide_eq_false e]; rfl) (by
        show i_isPermutation_b1 _ _ = _
        unfold i_isPermutation_b1
        rw [dnlt, bsel_false])
      rw [e]
      by_cases hs : sortG 0 ltI l l.length = upTo l.length
      · rw [if_pos hs, decide_eq_true hs]; rfl
      · rw [if_neg hs, decide_eq_false hs]; rfl
    · rw [decide_eq_false (show ¬ (l.length : Int) ≤ 12 by omega), decide_eq_false h2, Bool.false_and, bsel_false]
  · rw [decide_eq_false (show ¬ (1 : Int) ≤ (l.length : Int) by omega), decide_eq_false h1, Bool.false_and, Bool.false_and, bsel_false]
def lessG (f : Nat → F) (L : List F) (lo m : Nat) (y : F) : F := run (fun k s => fop .sub .f32 s (fop .mul .f32 (f k) (L.getD k none))) lo m y
theorem lessG_app {f : Nat → F} {L R : List F} {m : Nat} {y : F} (h : m ≤ L.length) : lessG f (L ++ R) 0 m y = lessG f L 0 m y :=
  run_congr (fun _ _ => True) m 0 y trivial fun j s _ hj _ => ⟨by rw [getD_appG (by omega)], trivial⟩
theorem loop_less {σ : Type} {ρ : Type} {step : F × Int → Option (LR (F × Int) F ρ)} {f : Nat → F} {L : List F} {lo n : Nat} (hlo : lo ≤ n) {y : F}
    (hs : ∀ k s, lo ≤ k → k < n → step (s, (k : Int)) = some (.next (fop .sub .f32 s (fop .mul .f32 (f k) (L.getD k none)), ((k + 1 : Nat) : Int)))) (he : ∀ s, step (s, (n : Int)) = some (.out s)) : loopM step (y, (lo : Int)) = some (.inl (lessG f L lo (n - lo) y)) :=
  (loop_run (step := step) (fun (k : Nat) (s : F) => (s, (k : Int))) (fun k s => fop .sub .f32 s (fop .mul .f32 (f k) (L.getD k none))) (fun s => s) (fun _ _ => True) hlo (s0 := y) trivial (fun k s h1 h2 _ => ⟨hs k s h1 h2, trivial⟩) (fun s _ => he s)).1
def lowL (h : Nat → F → List F → F) (c : List F) : Nat → List F
  | 0 => []
  | i + 1 => lowL h c i ++ [h i (c.getD i none) (lowL h c i)]
theorem lowL_len {h : Nat → F → List F → F} {c : List F} : ∀ i, (lowL h c i).length = i
  | 0 => rfl
  | i + 1 => by simp [lowL, lowL_len i]
theorem lowL_set {h : Nat → F → List F → F} {c : List F} {i : Nat} (hi : i < c.length) : (lowL h c i ++ c.drop i).set i (h i (c.getD i none) (lowL h c i)) = lowL h c (i + 1) ++ c.drop (i + 1) := by
  have e : c.drop i = c.getD i none :: c.drop (i + 1) := by
    rw [List.drop_eq_getElem_cons hi]
    congr 1
    rw [List.getD_eq_getElem?_getD, List.getElem?_eq_getElem hi]; rfl
  rw [List.set_append_right _ _ (by rw [lowL_len]; exact Nat.le_refl _), lowL_len, Nat.sub_self, e]
  show lowL h c i ++ (_ :: _) = (lowL h c i ++ [_]) ++ _
  simp
theorem lowL_get {h : Nat → F → List F → F} {c : List F} {i : Nat} (hi : i < c.length) : (lowL h c i ++ c.drop i).getD i none = c.getD i none := by
  rw [List.getD_eq_getElem?_getD, List.getElem?_append_right (by rw [lowL_len]; exact Nat.le_refl _), lowL_len, Nat.sub_self, List.getElem?_drop, Nat.add_zero, ← List.getD_eq_getElem?_getD]
def upL (h : Nat → F → List F → F) (n : Nat) (L : List F) : List F := run (fun j L => L.set (n - 1 - j) (h (n - 1 - j) (L.getD (n - 1 - j) none) L)) 0 n L
theorem upL_len {h : Nat → F → List F → F} {n : Nat} {L : List F} : (upL h n L).length = L.length := by
  have := run_inv (f := fun j L => L.set (n - 1 - j) (h (n - 1 - j) (L.getD (n - 1 - j) none) L)) (fun _ (L' : List F) => L'.length = L.length) n 0 L rfl (fun j s _ _ hs => by simp [hs])
  exact this
theorem loop_up {ρ : Type} {step : List F × Int → Option (LR (List F × Int) (List F) ρ)} {h : Nat → F → List F → F} {n : Nat} {L : List F} (hl : L.length = n)
    (hs : ∀ i L, i < n → L.length = n → step (L, (i : Int)) = some (.next (L.set i (h i (L.getD i none) L), (i : Int) - 1))) (he : ∀ L, step (L, -1) = some (.out L)) : loopM step (L, (n : Int) - 1) = some (.inl (upL h n L)) := by
  have e := (loop_run (step := step) (fun (j : Nat) (L : List F) => (L, (n : Int) - 1 - (j : Int))) (fun j L => L.set (n - 1 - j) (h (n - 1 - j) (L.getD (n - 1 - j) none) L)) (fun L => L) (fun _ L => L.length = n) (lo := 0) (n := n) (Nat.zero_le _) (s0 := L) hl
    (fun j L2 _ hj hI => by
      refine ⟨?_, by simp [hI]⟩
      have hz : (n : Int) - 1 - (j : Int) = ((n - 1 - j : Nat) : Int) := by omega
      rw [hz, hs _ _ (by omega) hI]
      have hz2 : (n : Int) - 1 - ((j + 1 : Nat) : Int) = ((n - 1 - j : Nat) : Int) - 1 := by omega
      rw [hz2])
    (fun L2 _ => by rw [show (n : Int) - 1 - (n : Int) = -1 by omega, he])).1
  rw [show ((n : Int) - 1 - ((0 : Nat) : Int)) = (n : Int) - 1 by omega, Nat.sub_zero] at e
  exact e
def rowH (n : Nat) (X : List F) (i : Nat) (y : F) (L : List F) : F := lessG (fun k => gm none X n i k) L 0 i y
def upH (n : Nat) (X : List F) (i : Nat) (y : F) (L : List F) : F := fop .quo .f32 (lessG (fun k => gm none X n i k) L (i + 1) (n - (i + 1)) y) (gm none X n i i)
theorem i_Matrix_lessRow_eq {n i lo hi : Nat} {X L : List F} {y : F} (m : Mat n n X) (hl : L.length = n) (hi2 : i < n) (h1 : lo ≤ hi) (h2 : hi ≤ n) : i_Matrix_lessRow (n : Int) (n : Int) X y (i : Int) (lo : Int) (hi : Int) L = some (lessG (fun k => gm none X n i k) L lo (hi - lo) y) := by
  have hn := m.A1
  unfold i_Matrix_lessRow
  rw [loop_less (σ := Unit) (f := fun k => gm none X n i k) (L := L) h1 (fun k s _ hk => by
    show i_Matrix_lessRow_b1 _ _ _ _ _ _ _ _ = _
    unfold i_Matrix_lessRow_b1
    rw [dlt hk, bsel_true, i_Matrix_at_eq _ m hi2 (by omega), obind_eq, at?_n none (by omega), obind_eq, i_mul_eq, obind_eq, olet_eq, wsucc (by omega)]
    rfl) (fun s => by
    show i_Matrix_lessRow_b1 _ _ _ _ _ _ _ _ = _
    unfold i_Matrix_lessRow_b1
    rw [dnlt, bsel_false])]
  rfl
theorem i_Matrix_upperSolve_eq {n : Nat} {X L : List F} (m : Mat n n X) (hl : L.length = n) : i_Matrix_upperSolve (n : Int) (n : Int) X L = some (upL (upH n X) n L) := by
  have hn := m.A1
  unfold i_Matrix_upperSolve x_slices_Clone_float32_float32
  have ap : apok 4 0 L.length = true := by simp [apok]; omega
  rw [ap, need_true, obind_eq, List.nil_append, show IntKind.i64.wrap ((n : Int) - 1) = (n : Int) - 1 from wrap_i64 (by omega) (by omega), olet_eq]
  rw [loop_up (h := upH n X) hl (fun i L2 hi h2 => by
    show i_Matrix_upperSolve_b1 _ _ _ _ _ = _
    unfold i_Matrix_upperSolve_b1
    dsimp only
    rw [show decide ((0 : Int) ≤ (i : Int)) = true from decide_eq_true (by omega), bsel_true, at?_n none (by omega), obind_eq, wsucc (by omega), olet_eq, i_Matrix_lessRow_eq m h2 hi (by omega) (Nat.le_refl _), obind_eq, i_Matrix_at_eq _ m hi hi, obind_eq, olet_eq, setAt?_n _ (by omega), obind_eq, show IntKind.i64.wrap ((i : Int) - 1) = (i : Int) - 1 from wrap_i64 (by omega) (by omega)]
    rfl) (fun L2 => by
    show i_Matrix_upperSolve_b1 _ _ _ _ _ = _
    unfold i_Matrix_upperSolve_b1
    rfl)]
  rfl
def ordC (o : List Int) (b : List F) (n : Nat) : List F := (List.range n).map fun i => b.getD (o.getD i 0).toNat none
theorem ordC_len {o : List Int} {b : List F} {n : Nat} : (ordC o b n).length = n := by simp [ordC]
theorem ordC_at {o : List Int} {b : List F} {n i : Nat} (h : i < n) : (ordC o b n).getD i none = b.getD (o.getD i 0).toNat none := by
  unfold ordC
  rw [List.getD_eq_getElem?_getD, List.getElem?_map, List.getElem?_range h]; rfl
theorem i_Factor_solve_eq {n : Nat} {X b : List F} {o : List Int} (m : Mat n n X) (n0 : 0 < n) (hb : b.length = n) (ho : o.length = n) (hr : ∀ i, i < n → 0 ≤ o.getD i 0 ∧ o.getD i 0 < (n : Int)) : i_Factor_solve (n : Int) (n : Int) X o b = some (upL (upH n X) n (lowL (rowH n X) (ordC o b n) n)) := by
  have hn := m.A1
  have e1 := (loop_run (step := i_Factor_solve_s1 o b) (fun (i : Nat) (l : List F) => (l, (i : Int))) (fun i l => l ++ [b.getD (o.getD i 0).toNat none]) (fun l => l) (fun i l => l.length = i) (lo := 0) (n := n) (Nat.zero_le _) (s0 := []) rfl
    (fun i l _ hi hI => by
      refine ⟨?_, by simp [hI]⟩
      show i_Factor_solve_b1 _ _ _ _ = _
      unfold i_Factor_solve_b1
      dsimp only
      have ap : apok 4 l.length 1 = true := by simp [apok, hI]; omega
      have h := hr i hi
      rw [ho, dlt hi, bsel_true, at?_n 0 (by omega), obind_eq, at?_i none h.1 (by omega), obind_eq, ap, need_true, wsucc (by omega)]
      rfl)
    (fun l _ => by
      show i_Factor_solve_b1 _ _ _ _ = _
      unfold i_Factor_solve_b1
      rw [ho, dnlt, bsel_false])).1
  rw [Nat.sub_zero, run_map] at e1
  replace e1 : loopM (i_Factor_solve_s1 o b) ([], 0) = some (.inl (ordC o b n)) := e1
  have lc : (ordC o b n).length = n := ordC_len
  have e2 := (loop_run (step := i_Factor_solve_s2 (n : Int) (n : Int) X) (fun (i : Nat) (_ : Unit) => (lowL (rowH n X) (ordC o b n) i ++ (ordC o b n).drop i, (i : Int))) (fun _ _ => ()) (fun _ => lowL (rowH n X) (ordC o b n) n) (fun _ _ => True) (lo := 1) (n := n) n0 (s0 := ()) trivial
    (fun i _ h1 hi _ => by
      refine ⟨?_, trivial⟩
      show i_Factor_solve_b2 _ _ _ _ _ = _
      unfold i_Factor_solve_b2
      dsimp only
      have hl : (lowL (rowH n X) (ordC o b n) i ++ (ordC o b n).drop i).length = n := by rw [List.length_append, lowL_len, List.length_drop]; omega
      rw [dlt hi, bsel_true, at?_n none (by omega), obind_eq, lowL_get (by omega), show (0 : Int) = ((0 : Nat) : Int) from rfl, i_Matrix_lessRow_eq m hl hi (Nat.zero_le _) (by omega), obind_eq, Nat.sub_zero, lessG_app (by rw [lowL_len]; exact Nat.le_refl _), setAt?_n _ (by omega), obind_eq, wsucc (by omega)]
      show some (LR.next ((lowL (rowH n X) (ordC o b n) i ++ (ordC o b n).drop i).set i (rowH n X i ((ordC o b n).getD i none) (lowL (rowH n X) (ordC o b n) i)), _)) = _
      rw [lowL_set (by omega)])
    (fun _ _ => by
      show i_Factor_solve_b2 _ _ _ _ _ = _
      unfold i_Factor_solve_b2
      dsimp only
      rw [dnlt, bsel_false, List.drop_of_length_le (by omega), List.append_nil])).1
  have h1 : lowL (rowH n X) (ordC o b n) 1 ++ (ordC o b n).drop 1 = ordC o b n := by
    have := lowL_set (h := rowH n X) (c := ordC o b n) (i := 0) (by omega)
    rw [← this]
    show (ordC o b n).set 0 (lessG _ [] 0 0 ((ordC o b n).getD 0 none)) = _
    show (ordC o b n).set 0 ((ordC o b n).getD 0 none) = _
    apply List.ext_getElem?
    intro q
    rw [List.getElem?_set]
    by_cases hq : 0 = q
    · subst hq
      rw [if_pos rfl, if_pos (by omega), List.getD_eq_getElem?_getD, List.getElem?_eq_getElem (by omega)]; rfl
    · rw [if_neg hq]
  replace e2 : loopM (i_Factor_solve_s2 (n : Int) (n : Int) X) (lowL (rowH n X) (ordC o b n) 1 ++ (ordC o b n).drop 1, 1) = some (.inl (lowL (rowH n X) (ordC o b n) n)) := e2
  rw [h1] at e2
  unfold i_Factor_solve
  rw [e1, obind_eq, osum_inl]
  unfold i_Factor_solve_k1
  rw [e2, obind_eq, osum_inl]
  unfold i_Factor_solve_k2
  rw [i_Matrix_upperSolve_eq m (by rw [lowL_len]), obind_eq]
def vecB (b : List F) : Bool := decide (1 ≤ b.length) && (decide (b.length ≤ 256) && b.all fin32)
theorem s_l02Vector_eq {b : List F} (g : FOks b) (s : b.length ≤ 1048576) : s_l02Vector b = some (vecB b) := by
  unfold s_l02Vector vecB
  by_cases h1 : 1 ≤ b.length
  · rw [decide_eq_true h1, decide_eq_true (show (1 : Int) ≤ (b.length : Int) by omega), bsel_true, Bool.true_and]
    by_cases h2 : b.length ≤ 256
    · rw [decide_eq_true h2, decide_eq_true (show (b.length : Int) ≤ 256 by omega), bsel_true, Bool.true_and, s_l02Finite_eq g s, obind_eq]
    · rw [decide_eq_false h2, decide_eq_false (show ¬ (b.length : Int) ≤ 256 by omega), bsel_false, Bool.false_and]
  · rw [decide_eq_false h1, decide_eq_false (show ¬ (1 : Int) ≤ (b.length : Int) by omega), bsel_false, Bool.false_and]
theorem i_IsVector_eq {b : List F} (g : FOks b) (s : b.length ≤ 1048576) : i_IsVector b = some (vecB b) := by
  unfold i_IsVector i_length_float32 vecB
  rw [obind_eq, i_inRange_eq, obind_eq]
  by_cases h1 : 1 ≤ b.length
  · rw [decide_eq_true h1, decide_eq_true (show (1 : Int) ≤ (b.length : Int) by omega), Bool.true_and, Bool.true_and]
    by_cases h2 : b.length ≤ 256
    · rw [decide_eq_true h2, decide_eq_true (show (b.length : Int) ≤ 256 by omega), bsel_true, Bool.true_and, i_areFinite_eq g s, obind_eq]
    · rw [decide_eq_false h2, decide_eq_false (show ¬ (b.length : Int) ≤ 256 by omega), bsel_false, Bool.false_and]
  · rw [decide_eq_false h1, decide_eq_false (show ¬ (1 : Int) ≤ (b.length : Int) by omega), Bool.false_and, Bool.false_and, bsel_false]
def midB (n : Nat) (X : List F) : Bool := (diagL n X).all fun x => !feq .f32 (some 0) x
theorem i_Contains_zero {n : Nat} {X : List F} (hn : n ≤ 12) : x_slices_Contains_float32_float32 (diagL n X) (some 0) = some (!midB n X) := by
  unfold x_slices_Contains_float32_float32 x_slices_Index_float32_float32
  have ld : (diagL n X).length = n := diagL_len
  obtain ⟨r, h1, h2⟩ := loop_find (l := diagL n X) (p := fun x => feq .f32 (some 0) x) (step := x_slices_Index_float32_float32_s1 (diagL n X) (some 0)) (by
    intro v x h0 hv hx
    show x_slices_Index_float32_float32_b1 _ _ v = _
    unfold x_slices_Index_float32_float32_b1
    rw [at?_of h0 hx, wrap_succ h0 hv (by omega), show decide (v < ((diagL n X).length : Int)) = true from decide_eq_true hv, bsel_true, obind_eq]
    cases feq .f32 (some 0) x <;> rfl) (by
    show x_slices_Index_float32_float32_b1 _ _ _ = _
    unfold x_slices_Index_float32_float32_b1
    rw [dnlt, bsel_false])
  have e : (diagL n X).any (fun x => feq .f32 (some 0) x) = !midB n X := by
    unfold midB
    generalize diagL n X = l
    induction l with
    | nil => rfl
    | cons a l ih => simp [ih]
  rw [h1, e]
  cases midB n X with
  | true => rfl
  | false =>
    show some (decide (0 ≤ r)) = some true
    rw [decide_eq_true h2]
def facB (a0 a1 : Int) (a2 : List F) (a3 : List Int) : Bool := validM a0 a1 a2 && decide (a0 = a1) && (ordB a3 && (decide ((a3.length : Int) = a0) && midB a0.toNat a2))
theorem i_ValidFactor_eq (a0 a1 : Int) {a2 : List F} (a3 : List Int) (g : FOks a2) (s : a2.length ≤ 1048576) : i_ValidFactor a0 a1 a2 a3 = some (facB a0 a1 a2 a3) := by
  unfold i_ValidFactor facB
  rw [i_isSquare_eq a0 a1 g s, obind_eq]
  cases hv : validM a0 a1 a2 && decide (a0 = a1) with
  | false => rfl
  | true =>
    simp only [Bool.and_eq_true, decide_eq_true_eq] at hv
    obtain ⟨hv, he⟩ := hv
    obtain ⟨n, C, rfl, rfl, n0, C0, m, f⟩ := valid_mat hv
    have : n = C := by omega
    subst this
    rw [bsel_true, Bool.true_and, i_Matrix_middle_eq m, obind_eq, i_Contains_zero m.A1, obind_eq, Int.toNat_natCast, i_IsOrder_eq]
    unfold i_length_int64
    cases midB n a2 with
    | false => cases ordB a3 <;> cases decide ((a3.length : Int) = (n : Int)) <;> rfl
    | true =>
      cases ordB a3 with
      | false => rfl
      | true =>
        show some (decide ((a3.length : Int) = (n : Int))) = _
        rw [Bool.true_and, Bool.and_true]
def fitB (a0 a1 : Int) (a2 : List F) (a3 : List Int) (a4 : List F) : Bool := facB a0 a1 a2 a3 && (vecB a4 && decide ((a4.length : Int) = a0))
theorem i_Factor_takes_eq (a0 a1 : Int) {a2 : List F} (a3 : List Int) {a4 : List F} (g : FOks a2) (s : a2.length ≤ 1048576) (g4 : FOks a4) (s4 : a4.length ≤ 1048576) : i_Factor_takes a0 a1 a2 a3 a4 = some (fitB a0 a1 a2 a3 a4) := by
  unfold i_Factor_takes i_length_float32 fitB
  rw [i_ValidFactor_eq a0 a1 a3 g s, obind_eq, i_IsVector_eq g4 s4, obind_eq]
  cases facB a0 a1 a2 a3 <;> cases vecB a4 <;> rfl
def dotB (a b : List F) : Bool := vecB a && (vecB b && decide ((a.length : Int) = (b.length : Int)))
theorem i_areVectors_eq {a b : List F} (g : FOks a) (s : a.length ≤ 1048576) (g' : FOks b) (s' : b.length ≤ 1048576) : i_areVectors a b = some (dotB a b) := by
  unfold i_areVectors dotB
  rw [i_IsVector_eq g s, i_IsVector_eq g' s', obind_eq, obind_eq]
  cases vecB a <;> cases vecB b <;> rfl
def dvP (a b : List F) : F × Bool := bif dotB a b then (bif fin32 (dotN (fun i => a.getD i none) (fun i => b.getD i none) a.length) then (dotN (fun i => a.getD i none) (fun i => b.getD i none) a.length, true) else (some 0, false)) else (some 0, false)
theorem dotB_len {a b : List F} (h : dotB a b = true) : a.length = b.length ∧ a.length ≤ 256 := by
  unfold dotB vecB at h
  simp only [Bool.and_eq_true, decide_eq_true_eq] at h
  omega
theorem i_DotVectors_eq {a b : List F} (g : FOks a) (s : a.length ≤ 1048576) (g' : FOks b) (s' : b.length ≤ 1048576) : i_DotVectors a b = some (dvP a b) := by
  unfold i_DotVectors dvP i_finite
  rw [i_areVectors_eq g s g' s', obind_eq]
  cases hd : dotB a b with
  | false => rfl
  | true =>
    obtain ⟨h1, h2⟩ := dotB_len hd
    rw [bsel_true, cond_true, i_dot_eq (by omega) (by omega), obind_eq, i_IsFinite_eq (dotN_ok _ _ _), obind_eq]
    cases fin32 (dotN (fun i => a.getD i none) (fun i => b.getD i none) a.length) <;> rfl
theorem s_l02Dot_dotN {l m : List F} (h : l.length ≤ m.length) (hl : l.length ≤ 1000000) : s_l02Dot l m = some (dotN (fun i => l.getD i none) (fun i => m.getD i none) l.length) := by
  obtain ⟨e, _⟩ := loop_run (step := s_l02Dot_s1 l m) (fun (i : Nat) (y : F) => (y, (i : Int))) (dotE (fun i => l.getD i none) (fun i => m.getD i none)) (fun y => y) (fun _ _ => True) (lo := 0) (n := l.length) (Nat.zero_le _) (s0 := some 0) trivial
    (fun i y _ hi _ => by
      refine ⟨?_, trivial⟩
      show s_l02Dot_b1 _ _ _ _ = _
      unfold s_l02Dot_b1
      rw [dlt hi, bsel_true, at?_n none hi, obind_eq, at?_n none (by omega), obind_eq, olet_eq, olet_eq, wsucc (by omega)]
      rfl)
    (fun y _ => by
      show s_l02Dot_b1 _ _ _ _ = _
      unfold s_l02Dot_b1
      rw [dnlt, bsel_false])
  unfold s_l02Dot
  replace e : loopM (s_l02Dot_s1 l m) (some 0, 0) = some (.inl (run (dotE (fun i => l.getD i none) (fun i => m.getD i none)) 0 (l.length - 0) (some 0))) := e
  rw [e]; rfl
def usL (q : F) (x z : List F) : List F := (List.range x.length).map fun i => fop .sub .f32 (x.getD i none) (fop .mul .f32 q (z.getD i none))
theorem usL_len {q : F} {x z : List F} : (usL q x z).length = x.length := by simp [usL]
theorem i_less_eq {q : F} {x z : List F} (hz : x.length ≤ z.length) (hl : x.length ≤ 1000) : i_less_0o_2o1 q x z = some (usL q x z, z) := by
  have e := (loop_run (step := i_less_0o_2o1_s1 q x z) (fun (i : Nat) (L : List F) => (L, (i : Int))) (fun i L => L.set i (fop .sub .f32 (L.getD i none) (fop .mul .f32 q (z.getD i none)))) (fun l => l) (fun _ L => L.length = x.length) (lo := 0) (n := x.length) (Nat.zero_le _) (s0 := x) rfl
    (fun i L _ hi hI => by
      refine ⟨?_, by simp [hI]⟩
      show i_less_0o_2o1_b1 _ _ _ _ _ = _
      unfold i_less_0o_2o1_b1
      dsimp only
      rw [dlt hi, bsel_true, at?_n none (by omega), obind_eq, at?_n none (by omega), obind_eq, i_mul_eq, obind_eq, olet_eq, setAt?_n _ (by omega), obind_eq, wsucc (by omega)]
      rfl)
    (fun l _ => by
      show i_less_0o_2o1_b1 _ _ _ _ _ = _
      unfold i_less_0o_2o1_b1
      rw [dnlt, bsel_false])).1
  rw [Nat.sub_zero] at e
  replace e : loopM (i_less_0o_2o1_s1 q x z) (x, 0) = some (.inl (setAll (fun i y => fop .sub .f32 y (fop .mul .f32 q (z.getD i none))) x.length x)) := e
  have hs : setAll (fun i y => fop .sub .f32 y (fop .mul .f32 q (z.getD i none))) x.length x = usL q x z := by
    obtain ⟨h1, h2⟩ := setAll_spec (fun i y => fop .sub .f32 y (fop .mul .f32 q (z.getD i none))) x.length x (Nat.le_refl _)
    apply List.ext_getElem
    · rw [h1, usL_len]
    · intro i h3 h4
      have hi : i < x.length := by rw [usL_len] at h4; exact h4
      have := h2 i hi
      rw [List.getD_eq_getElem?_getD, List.getElem?_eq_getElem h3] at this
      have e5 : (usL q x z)[i] = fop .sub .f32 (x.getD i none) (fop .mul .f32 q (z.getD i none)) := by simp [usL]
      rw [e5]
      exact this
  unfold i_less_0o_2o1
  rw [e, hs]; rfl
theorem wi64 {n : Int} (h0 : -9000000000000000000 ≤ n) (h1 : n ≤ 9000000000000000000) : IntKind.i64.wrap n = n := wrap_i64 (by omega) (by omega)
theorem u64_wrap {n : Int} (h0 : 0 ≤ n) (h1 : n < 18446744073709551616) : IntKind.u64.wrap n = n := by
  simp only [IntKind.wrap, IntKind.bits, IntKind.signed]
  simp
  omega
def Byt (l : List Int) : Prop := ∀ z ∈ l, 0 ≤ z ∧ z < 256
theorem byt_of {l : List Int} (h : ∀ z ∈ l, (Lit.int .u8 z).wf = true) : Byt l := by
  intro z hz
  have := h z hz
  have e0 : IntKind.u8.min = 0 := by decide
  have e1 : IntKind.u8.max = 255 := by decide
  simp only [Lit.wf, e0, e1, Bool.and_eq_true, decide_eq_true_eq] at this
  constructor <;> omega
theorem iand255 (x : Int) : ∃ d : Nat, d < 256 ∧ iand .u64 x 255 = (d : Int) := by
  have hle : (BitVec.ofInt 64 x &&& BitVec.ofInt 64 255).toNat ≤ 255 := by
    rw [BitVec.toNat_and, show (BitVec.ofInt 64 255).toNat = 255 from by decide]
    exact Nat.and_le_right
  refine ⟨_, Nat.lt_of_le_of_lt hle (by decide), ?_⟩
  show IntKind.u64.wrap (((BitVec.ofInt 64 x &&& BitVec.ofInt 64 255).toNat : Nat) : Int) = _
  exact u64_wrap (by omega) (by omega)
theorem src_k1 {a : List Int} {t v : Nat} {s : Int} (ht : t ≤ 1000000) (hv : v < 256) : ∃ (w : Nat) (s' : Int), w < 256 ∧ s_l00Src_next_0p0_C0_k1 a (t : Int) s (v : Int) = some ((w : Int), ((t + 1 : Nat) : Int), s') := by
  unfold s_l00Src_next_0p0_C0_k1
  simp only [olet_eq]
  rw [wsucc (by omega)]
  generalize IntKind.u64.wrap (IntKind.u64.wrap (IntKind.u64.wrap (s * 6364136223846793005) + IntKind.u64.wrap (v : Int)) + 1442695040888963407) = X
  by_cases h : t + 1 ≤ a.length
  · rw [decide_eq_true (by omega), bsel_true]; exact ⟨v, _, hv, rfl⟩
  · obtain ⟨d, hd, e⟩ := iand255 (ishr .u64 X 40)
    rw [decide_eq_false (by omega), bsel_false, show decide ((0 : Int) ≤ 40) = true from rfl, need_true, e, wi64 (by omega) (by omega)]
    exact ⟨d, _, hd, rfl⟩
theorem src_next {a : List Int} (ha : Byt a) {t : Nat} (ht : t ≤ 1000000) (s : Int) : ∃ (v : Nat) (s' : Int), v < 256 ∧ s_l00Src_next_0p0_C0 a (t : Int) s = some ((v : Int), ((t + 1 : Nat) : Int), s') := by
  by_cases h : t < a.length
  · obtain ⟨x, hx⟩ : ∃ x, a[t]? = some x := ⟨_, List.getElem?_eq_getElem h⟩
    obtain ⟨x0, x1⟩ := ha x (List.mem_of_getElem? hx)
    have e : s_l00Src_next_0p0_C0 a (t : Int) s = s_l00Src_next_0p0_C0_k1 a (t : Int) s ((x.toNat : Nat) : Int) := by
      unfold s_l00Src_next_0p0_C0
      rw [decide_eq_true (by omega), bsel_true, at?_of (by omega) (by rw [show (t : Int).toNat = t from by omega]; exact hx), obind_eq, olet_eq, wi64 (by omega) (by omega)]
      congr 1; omega
    rw [e]; exact src_k1 ht (by omega)
  · have e : s_l00Src_next_0p0_C0 a (t : Int) s = s_l00Src_next_0p0_C0_k1 a (t : Int) s ((0 : Nat) : Int) := by
      unfold s_l00Src_next_0p0_C0
      rw [decide_eq_false (by omega), bsel_false]
      congr 1
    rw [e]; exact src_k1 ht (by decide)
theorem src_pick {a : List Int} (ha : Byt a) {n t : Nat} (h1 : 1 ≤ n) (h2 : n ≤ 200) (ht : t ≤ 1000000) (s : Int) : ∃ (v t' : Nat) (s' : Int), v < n ∧ t' ≤ t + 1 ∧ s_l00Src_pick_0p0_C0 (n : Int) a (t : Int) s = some ((v : Int), (t' : Int), s') := by
  unfold s_l00Src_pick_0p0_C0
  by_cases h : n ≤ 1
  · rw [decide_eq_true (by omega), bsel_true]; exact ⟨0, t, s, by omega, by omega, rfl⟩
  · obtain ⟨v, s', hv, e⟩ := src_next ha ht s
    rw [decide_eq_false (by omega), bsel_false, e, obind3_eq, decide_eq_false (by omega), bsel_false]
    unfold s_l00Src_pick_0p0_C0_k1
    rw [decide_eq_false (by omega), Bool.not_false, need_true]
    simp only [olet_eq]
    refine ⟨v % n, t + 1, s', Nat.mod_lt _ (by omega), Nat.le_refl _, ?_⟩
    rw [Int.tmod_eq_emod_of_nonneg (by omega), Int.natCast_emod]
def Qd (x : F) : Prop := ∃ q : Int, q.natAbs ≤ 16 ∧ Dy .f32 2 q x
open Classical in
noncomputable def qv (x : F) : Int := if h : Qd x then h.choose else 0
theorem qv_le (x : F) : (qv x).natAbs ≤ 16 := by
  unfold qv
  split
  · rename_i h; exact h.choose_spec.1
  · decide
theorem qd_dy {x : F} (h : Qd x) : Dy .f32 2 (qv x) x := by
  unfold qv
  rw [dif_pos h]; exact h.choose_spec.2
theorem four_dy : Dy .f32 0 4 (some 1082130432) := by
  have e : fint .f32 4 = some 1082130432 := by decide +kernel
  rw [← e]; exact Dy.int (by decide)
theorem quarter {n : Int} (h : n.natAbs ≤ 16) : Qd (fop .quo .f32 (fint .f32 n) (some 1082130432)) := by
  have hd : (2 : Nat) ^ dgn .f32 = 16777216 := by decide
  have h1 : Dy .f32 0 n (fint .f32 n) := Dy.int (by omega)
  have h2 := h1.scale (t := 2) (by decide)
  exact ⟨n, h, Dy.quo (s := 2) (t := 0) h2 four_dy (by decide) (by omega) (by omega)⟩
structure QM (A C : Nat) (L : List F) : Prop where
  m : Mat A C L
  q : ∀ x ∈ L, Qd x
theorem QM.at {A C : Nat} {L : List F} (h : QM A C L) {i k : Nat} (hi : i < A) (hk : k < C) : Qd (gm none L C i k) := by
  have := h.m.lt hi hk
  unfold gm
  exact h.q _ (List.mem_of_getElem? (getD_of_lt none this))
theorem QM.oks {A C : Nat} {L : List F} (h : QM A C L) : FOks L := fun x hx => (qd_dy (h.q x hx)).fok
theorem QM.fin {A C : Nat} {L : List F} (h : QM A C L) : L.all fin32 = true := List.all_eq_true.2 fun x hx => (qd_dy (h.q x hx)).fin
theorem mem_gm {A C : Nat} {L : List F} (h : Mat A C L) {x : F} (hx : x ∈ L) : ∃ i k, i < A ∧ k < C ∧ x = gm none L C i k := by
  obtain ⟨q, hq, rfl⟩ := List.mem_iff_getElem.1 hx
  have hq' : q < A * C := by rw [← h.len]; exact hq
  have hC : 0 < C := by
    rcases Nat.eq_zero_or_pos C with h0 | h0
    · subst h0; simp at hq'
    · exact h0
  have h3 : q / C * C + q % C = q := by rw [Nat.mul_comm]; exact Nat.div_add_mod q C
  refine ⟨q / C, q % C, (Nat.div_lt_iff_lt_mul hC).2 hq', Nat.mod_lt _ hC, ?_⟩
  unfold gm
  rw [h3]
  simp [List.getD, hq]
theorem sub_getD {l : List F} {v to j : Nat} (hj : v + j < to) : ((l.take to).drop v).getD j none = l.getD (v + j) none := by
  simp [List.getD, List.getElem?_drop, List.getElem?_take, hj]
theorem gm_flat {A C v : Nat} {L : List F} (hC : 0 < C) (h : v < A * C) : L.getD v none = gm none L C (v / C) (v % C) ∧ v / C < A ∧ v % C < C := by
  refine ⟨?_, (Nat.div_lt_iff_lt_mul hC).2 h, Nat.mod_lt _ hC⟩
  unfold gm
  rw [show v / C * C + v % C = v from by rw [Nat.mul_comm]; exact Nat.div_add_mod v C]
theorem loop_all {n : Nat} {step : Int → Option (LR Int Unit Bool)} (hn : n ≤ 1000000) (hs : ∀ i : Nat, i < n → step (i : Int) = some (.next ((i + 1 : Nat) : Int))) (he : step (n : Int) = some (.out ())) : loopM step 0 = some (.inl ()) :=
  (loop_run (step := step) (fun (i : Nat) (_ : Unit) => (i : Int)) (fun _ u => u) (fun _ => ()) (fun _ _ => True) (lo := 0) (n := n) (Nat.zero_le _) (s0 := ()) trivial (fun i _ _ hi _ => ⟨hs i hi, trivial⟩) (fun _ _ => he)).1
theorem dy_small {n : Int} (hn : n.natAbs ≤ 200) : Dy .f32 0 n (fint .f32 n) := by
  have hp : (2 : Nat) ^ dgn .f32 = 16777216 := by decide
  exact Dy.int (by omega)
theorem two_dy : Dy .f32 0 2 (some 1073741824) := by
  have e : fint .f32 2 = some 1073741824 := by decide +kernel
  rw [← e]; exact dy_small (by decide)
def cE : Rat := 3 / 100000
theorem runE_all {σ ρ : Type} {f : Nat → σ → σ ⊕ ρ} (Inv : Nat → σ → Prop) : ∀ (m i : Nat) (s : σ), Inv i s → (∀ j s, i ≤ j → j < i + m → Inv j s → ∃ s', f j s = .inl s' ∧ Inv (j + 1) s') → ∃ s', runE f i m s = .inl s' ∧ Inv (i + m) s'
  | 0, i, s, h, _ => ⟨s, rfl, h⟩
  | m + 1, i, s, h, hs => by
    obtain ⟨s1, e1, h1⟩ := hs i s (Nat.le_refl _) (by omega) h
    obtain ⟨s2, e2, h2⟩ := runE_all Inv m (i + 1) s1 h1 fun j s hj1 hj2 hI => hs j s (by omega) (by omega) hI
    refine ⟨s2, ?_, by rw [show i + (m + 1) = i + 1 + m from by omega]; exact h2⟩
    simp only [runE]
    rw [e1]; exact e2
noncomputable def vm (n : Nat) (R : List F) (i k : Nat) : Rat := vl (gm none R n i k)
theorem dotN_near {f g : Nat → F} {P S e : Rat} : ∀ {n : Nat}, n ≤ 16 → (∀ j, j < n → Fv (f j) ∧ Fv (g j) ∧ Ab (vl (f j) * vl (g j)) P) → (∀ j, j ≤ n → Ab (rs (fun t => vl (f t) * vl (g t)) j) S) → P ≤ 100000 → S ≤ 100000 → e32 P + e32 (S + 16 * e + e32 P) ≤ e → 0 ≤ e → e ≤ 1 →
    Fv (dotN f g n) ∧ Ab (vl (dotN f g n) - rs (fun t => vl (f t) * vl (g t)) n) ((n : Rat) * e)
  | 0, _, _, _, _, _, _, e0, _ => by
    refine ⟨fv_zero.1, ?_⟩
    show Ab (vl (some 0) - 0) ((0 : Nat) * e)
    rw [fv_zero.2]
    exact ⟨by simp; grind, by simp; grind⟩
  | n + 1, hn, h, hS, hP, hS1, he, e0, e1 => by
    obtain ⟨i1, i2⟩ := dotN_near (n := n) (by omega) (fun j hj => h j (by omega)) (fun j hj => hS j (by omega)) hP hS1 he e0 e1
    obtain ⟨f1, f2, f3⟩ := h n (by omega)
    have e2 : dotN f g (n + 1) = fop .add .f32 (dotN f g n) (fop .mul .f32 (f n) (g n)) := by
      unfold dotN
      rw [run_last, Nat.zero_add]; rfl
    rw [e2]
    have hs := hS (n + 1) (Nat.le_refl _)
    have e3 : rs (fun t => vl (f t) * vl (g t)) (n + 1) = rs (fun t => vl (f t) * vl (g t)) n + vl (f n) * vl (g n) := rfl
    rw [e3] at hs ⊢
    generalize rs (fun t => vl (f t) * vl (g t)) n = T at *
    generalize dotN f g n = z at *
    have hn16 : (n : Rat) ≤ 16 := by exact_mod_cast (show n ≤ 16 by omega)
    have hne : (n : Rat) * e ≤ 16 * e := Rat.mul_le_mul_of_nonneg_right hn16 e0
    have hM : Ab (vl z + vl (f n) * vl (g n)) (S + 16 * e) := by
      have := (i2.mono hne).add hs
      rw [show vl z - T + (T + vl (f n) * vl (g n)) = vl z + vl (f n) * vl (g n) from by grind] at this
      exact this.mono (by grind)
    obtain ⟨r1, r2⟩ := fv_addmul i1 f1 f2 f3 hM (by grind) (by grind) he
    refine ⟨r1, ?_⟩
    have := r2.add i2
    rw [show vl (fop .add .f32 z (fop .mul .f32 (f n) (g n))) - (vl z + vl (f n) * vl (g n)) + (vl z - T) = vl (fop .add .f32 z (fop .mul .f32 (f n) (g n))) - (T + vl (f n) * vl (g n)) from by grind] at this
    exact this.mono (by push_cast; grind)
theorem e64_le {M : Rat} (h : M ≤ 1000000) (h0 : 0 ≤ M) : er .f64 M ≤ 1 / 1000000000 := by
  have ep64 : ep .f64 = 1 / 4503599627370496 := by decide +kernel
  have et64 : et .f64 ≤ 1 / 1000000000000000 := by decide +kernel
  unfold er
  rw [ep64]; grind
theorem gap_near {x y : F} {p q e : Rat} (hx : Rv .f64 p x) (hy : Rv .f64 q y) (h : Ab (p - q) e) (he : e ≤ 1000000) : ∃ z g, w_b10Gap x y = some z ∧ Rv .f64 g z ∧ Ab g (e + 1 / 1000000000) := by
  have e0 := h.nonneg
  unfold w_b10Gap
  rw [(hx.ord hy).1]
  by_cases hlt : p < q
  · rw [decide_eq_true hlt, bsel_true, olet_eq]
    have h2 : Ab (q - p) e := by have := h.neg; rw [show -(p - q) = q - p from by grind] at this; exact this
    obtain ⟨g, g1, g2⟩ := hy.sub hx h2 (big60 (by grind))
    refine ⟨_, g, rfl, g1, ?_⟩
    have := (g2.mono (e64_le he e0)).add h2
    rw [show g - (q - p) + (q - p) = g from by grind] at this
    exact this.mono (by grind)
  · rw [decide_eq_false hlt, bsel_false, olet_eq]
    obtain ⟨g, g1, g2⟩ := hx.sub hy h (big60 (by grind))
    refine ⟨_, g, rfl, g1, ?_⟩
    have := (g2.mono (e64_le he e0)).add h
    rw [show g - (p - q) + (p - q) = g from by grind] at this
    exact this.mono (by grind)
theorem s_Times_eq {A B : Nat} {L x : List F} (m : Mat A B L) (hx : x.length = B) : s_l02Times (A : Int) (B : Int) L x = some ((List.range A).map fun i => dotN (fun k => gm none L B i k) (fun k => x.getD k none) B) := by
  have hA := m.A1
  have hB := m.C1
  unfold s_l02Times
  have e := (loop_run (step := s_l02Times_s1 (A : Int) (B : Int) L x) (fun (i : Nat) (l : List F) => (l, (i : Int))) (fun i l => l ++ [dotN (fun k => gm none L B i k) (fun k => x.getD k none) B]) (fun l => l) (fun i l => l.length = i) (lo := 0) (n := A) (Nat.zero_le _) (s0 := []) rfl
    (fun i l _ hi h3 => by
      refine ⟨?_, by simp [h3]⟩
      show s_l02Times_b1 _ _ _ _ _ _ = _
      unfold s_l02Times_b1
      have ap : apok 4 l.length 1 = true := by simp [apok]; omega
      have hiB : i * B ≤ 144 := Nat.le_trans (Nat.mul_le_mul (show i ≤ 12 by omega) hB) (by decide)
      have hiB2 : (i + 1) * B ≤ 156 := Nat.le_trans (Nat.mul_le_mul (show i + 1 ≤ 13 by omega) hB) (by decide)
      have hin : (i + 1) * B ≤ L.length := by rw [m.len]; exact Nat.mul_le_mul_right _ (by omega)
      have hle : i * B ≤ (i + 1) * B := Nat.mul_le_mul_right _ (by omega)
      have sl : sub? L ((i * B : Nat) : Int) (((i + 1) * B : Nat) : Int) = some ((L.take ((i + 1) * B)).drop (i * B)) := sub?_n hle hin
      have ll : ((L.take ((i + 1) * B)).drop (i * B)).length = B := by rw [List.length_drop, List.length_take, Nat.min_eq_left hin, Nat.add_mul, Nat.one_mul]; omega
      rw [dlt hi, bsel_true, ← Int.natCast_mul, wn (by omega), olet_eq, wsucc (by omega), olet_eq, ← Int.natCast_mul, wn (by omega), olet_eq, sl, obind_eq, s_l02Dot_dotN (by omega) (by omega), obind_eq, ap, need_true, olet_eq, ll]
      have ed : dotN (fun j => ((L.take ((i + 1) * B)).drop (i * B)).getD j none) (fun j => x.getD j none) B = dotN (fun k => gm none L B i k) (fun k => x.getD k none) B :=
        dotN_congr fun j hj => ⟨by unfold gm; rw [sub_getD (by rw [Nat.add_mul, Nat.one_mul]; omega)], rfl⟩
      rw [ed])
    (fun l _ => by
      show s_l02Times_b1 _ _ _ _ _ _ = _
      unfold s_l02Times_b1
      rw [dnlt, bsel_false])).1
  rw [Nat.sub_zero, run_map] at e
  have e : loopM (s_l02Times_s1 (A : Int) (B : Int) L x) ([], 0) = some (.inl _) := e
  rw [e]; rfl
theorem s_TimesVector_fv {A B : Nat} {L x : List F} (m : Mat A B L) (hA : 0 < A) (hB : 0 < B) (fL : ∀ y ∈ L, Fv y) (hx : x.length = B) (fx : ∀ y ∈ x, Fv y) (fd : ∀ i, i < A → Fv (dotN (fun k => gm none L B i k) (fun k => x.getD k none) B)) :
    s_TimesVector (A : Int) (B : Int) L x = some (true, (List.range A).map fun i => dotN (fun k => gm none L B i k) (fun k => x.getD k none) B) := by
  have hA1 := m.A1
  have hB1 := m.C1
  have gL : FOks L := fun y hy => (fL y hy).fok
  have gx : FOks x := fun y hy => (fx y hy).fok
  have aL : L.all fin32 = true := List.all_eq_true.2 fun y hy => (fL y hy).fin
  have ax : x.all fin32 = true := List.all_eq_true.2 fun y hy => (fx y hy).fin
  have fl : ∀ y ∈ ((List.range A).map fun i => dotN (fun k => gm none L B i k) (fun k => x.getD k none) B), Fv y := fun y hy => by
    obtain ⟨i, hi, rfl⟩ := List.mem_map.1 hy
    exact fd i (List.mem_range.1 hi)
  generalize hl : ((List.range A).map fun i => dotN (fun k => gm none L B i k) (fun k => x.getD k none) B) = l at *
  have ll : l.length = A := by rw [← hl]; simp
  unfold s_TimesVector
  rw [s_l02Is_eq _ _ gL m.le, mat_valid m hA hB, aL, obind_eq, bsel_true, s_l02Vector_eq gx (by omega), obind_eq]
  have hv : vecB x = true := by unfold vecB; rw [hx, decide_eq_true (by omega), decide_eq_true (by omega), ax]; rfl
  rw [hv, bsel_true, hx, decide_eq_true rfl, Bool.not_true, bsel_false, s_Times_eq m hx, hl, obind_eq]
  unfold s_l02List_0o
  rw [s_l02Finite_eq (fun y hy => (fl y hy).fok) (by omega), obind_eq, show l.all fin32 = true from List.all_eq_true.2 fun y hy => (fl y hy).fin, bsel_true, obind_eq, osum_inl, obind2_eq, decide_eq_true rfl, need_true]
theorem lowL_get2 {h : Nat → F → List F → F} {c : List F} : ∀ {n i : Nat}, i < n → (lowL h c n).getD i none = h i (c.getD i none) (lowL h c i)
  | n + 1, i, hi => by
    show (lowL h c n ++ [h n (c.getD n none) (lowL h c n)]).getD i none = _
    by_cases e : i < n
    · rw [getD_appG (by rw [lowL_len]; exact e), lowL_get2 e]
    · have : i = n := by omega
      subst this
      rw [List.getD_eq_getElem?_getD, List.getElem?_append_right (by rw [lowL_len]; exact Nat.le_refl _), lowL_len, Nat.sub_self]; rfl
theorem lowL_pre {h : Nat → F → List F → F} {c : List F} {n i j : Nat} (hj : j < i) (hi : i ≤ n) : (lowL h c i).getD j none = (lowL h c n).getD j none := by
  rw [lowL_get2 hj, lowL_get2 (by omega)]
theorem rs_mono {f g : Nat → Rat} : ∀ {n : Nat}, (∀ j, j < n → Ab (f j) (g j)) → Ab (rs f n) (rs g n)
  | 0, _ => ⟨by unfold rs; grind, by unfold rs; grind⟩
  | n + 1, h => by
    unfold rs
    exact (rs_mono (n := n) fun j hj => h j (by omega)).add (h n (by omega))
theorem rs_head (g : Nat → Rat) : ∀ m, rs g (m + 1) = g 0 + rs (fun t => g (t + 1)) m
  | 0 => by show rs g 0 + g 0 = g 0 + 0; unfold rs; grind
  | m + 1 => by
    show rs g (m + 1) + g (m + 1) = g 0 + (rs (fun t => g (t + 1)) m + g (m + 1))
    rw [rs_head g m]; grind
theorem rs_part {g : Nat → Rat} {m : Nat} (h : ∀ t, t < m → 0 ≤ g t) : ∀ {j k : Nat}, j ≤ k → k ≤ m → rs g j ≤ rs g k := by
  intro j k hjk
  induction k with
  | zero => intro _; have : j = 0 := by omega
            subst this; exact Rat.le_refl
  | succ k ih =>
    intro hk
    rcases Nat.lt_or_eq_of_le hjk with hlt | heq
    · have := ih (by omega) (by omega)
      have := h k (by omega)
      show rs g j ≤ rs g k + g k
      grind
    · subst heq; exact Rat.le_refl
theorem upL_get {h : Nat → F → List F → F} {n : Nat} {c : List F} (hc : c.length = n) : ∀ i, i < n → ∃ L', (upL h n c).getD i none = h i (c.getD i none) L' ∧ L'.length = n ∧ ∀ k, i < k → k < n → L'.getD k none = (upL h n c).getD k none := by
  have inv := run_inv (f := fun j L => L.set (n - 1 - j) (h (n - 1 - j) (L.getD (n - 1 - j) none) L)) (fun j (L : List F) => j ≤ n → L.length = n ∧ (∀ i, i < n - j → L.getD i none = c.getD i none) ∧ ∀ i, n - j ≤ i → i < n → ∃ L', L.getD i none = h i (c.getD i none) L' ∧ L'.length = n ∧ ∀ k, i < k → k < n → L'.getD k none = L.getD k none) n 0 c (fun _ => ⟨hc, fun _ _ => rfl, fun i h1 h2 => by omega⟩) (fun j L _ hj hI => by
    intro hj1
    obtain ⟨l1, l2, l3⟩ := hI (by omega)
    have hp : n - 1 - j < L.length := by omega
    have gs : ∀ (x : F) i, i < n → (L.set (n - 1 - j) x).getD i none = if n - 1 - j = i then x else L.getD i none := fun x i hi => by
      rw [List.getD_eq_getElem?_getD, List.getD_eq_getElem?_getD]
      by_cases e : n - 1 - j = i
      · subst e; rw [if_pos rfl, List.getElem?_set_self hp]; rfl
      · rw [if_neg e, List.getElem?_set_ne e]
    refine ⟨by simp [l1], fun i hi => ?_, fun i h1 h2 => ?_⟩
    · rw [gs _ i (by omega), if_neg (by omega)]; exact l2 i (by omega)
    · by_cases e : n - 1 - j = i
      · subst e
        refine ⟨L, ?_, l1, fun k hk hkn => by rw [gs _ k hkn, if_neg (by omega)]⟩
        rw [gs _ _ h2, if_pos rfl, l2 _ (by omega)]
      · obtain ⟨L', p1, p2, p3⟩ := l3 i (by omega) h2
        exact ⟨L', by rw [gs _ i h2, if_neg e]; exact p1, p2, fun k hk hkn => by rw [gs _ k hkn, if_neg (by omega)]; exact p3 k hk hkn⟩)
  intro i hi
  have := inv (by omega)
  exact this.2.2 i (by omega) hi
theorem rs_lo {f : Nat → Rat} {n : Nat} : ∀ {i : Nat}, i ≤ n → (∀ t, i ≤ t → t < n → f t = 0) → rs f n = rs f i := by
  intro i hi h
  obtain ⟨m, rfl⟩ : ∃ m, n = i + m := ⟨n - i, by omega⟩
  rw [rs_split, rs_congr (g := fun _ => 0) fun j hj => h (i + j) (by omega) (by omega), rs_zero]; grind
theorem rs_hi {f : Nat → Rat} {n : Nat} {i : Nat} (hi : i ≤ n) (h : ∀ t, t < i → f t = 0) : rs f n = rs (fun t => f (i + t)) (n - i) := by
  obtain ⟨m, rfl⟩ : ∃ m, n = i + m := ⟨n - i, by omega⟩
  rw [rs_split, rs_congr (g := fun _ => 0) fun j hj => h j hj, rs_zero, show i + m - i = m from by omega]; grind
theorem chain_res {n i : Nat} {p q : Nat → Nat → Rat} {x y b e2 : Nat → Rat} {E : Nat → Rat} {e1 M ρ EX : Rat}
    (hE : ∀ k, k < n → Ab (rs (fun t => p i t * q t k) n - E k) EX) (hx : ∀ k, k < n → Ab (x k) M)
    (hF : Ab (rs (fun t => p i t * y t) n - b i) e1) (hB : ∀ t, t < n → Ab (rs (fun k => q t k * x k) n - y t) (e2 t)) (hR : Ab (rs (fun t => p i t * (rs (fun k => q t k * x k) n - y t)) n) ρ) :
    Ab (rs (fun k => E k * x k) n - b i) ((n : Rat) * (EX * M) + ρ + e1) := by
  have h1 : rs (fun k => rs (fun t => p i t * q t k) n * x k) n = rs (fun t => p i t * rs (fun k => q t k * x k) n) n := by
    have : ∀ k, rs (fun t => p i t * q t k) n * x k = rs (fun t => p i t * (q t k * x k)) n := fun k => by
      rw [Rat.mul_comm, ← rs_mul]; exact rs_congr fun t _ => by grind
    rw [rs_congr fun k _ => this k, rs_comm]
    exact rs_congr fun t _ => by rw [rs_mul]
  have h2 : Ab (rs (fun k => (rs (fun t => p i t * q t k) n - E k) * x k) n) ((n : Rat) * (EX * M)) := rs_ab fun k hk => (hE k hk).mul (hx k hk)
  have h3 : rs (fun k => (rs (fun t => p i t * q t k) n - E k) * x k) n = rs (fun k => rs (fun t => p i t * q t k) n * x k) n - rs (fun k => E k * x k) n := by
    rw [← rs_sub]; exact rs_congr fun k _ => by grind
  have h4 : rs (fun t => p i t * (rs (fun k => q t k * x k) n - y t)) n = rs (fun t => p i t * rs (fun k => q t k * x k) n) n - rs (fun t => p i t * y t) n := by
    rw [← rs_sub]; exact rs_congr fun k _ => by grind
  rw [h3, h1] at h2
  rw [h4] at hR
  have := (hR.sub h2).add hF
  generalize rs (fun t => p i t * rs (fun k => q t k * x k) n) n = U at *
  generalize rs (fun t => p i t * y t) n = V at *
  generalize rs (fun k => E k * x k) n = W at *
  rw [show U - V - (U - W) + (V - b i) = W - b i from by grind] at this
  exact this.mono (by grind)
theorem max_ab {x : Nat → Rat} : ∀ {n : Nat}, 0 < n → ∃ i X, i < n ∧ (x i = X ∨ x i = -X) ∧ 0 ≤ X ∧ ∀ k, k < n → Ab (x k) X
  | 1, _ => by
    by_cases h : 0 ≤ x 0
    · refine ⟨0, x 0, by omega, .inl rfl, h, fun k hk => ?_⟩
      have : k = 0 := by omega
      subst this
      exact ⟨by grind, Rat.le_refl⟩
    · refine ⟨0, -x 0, by omega, .inr (by grind), by grind, fun k hk => ?_⟩
      have : k = 0 := by omega
      subst this
      exact ⟨by grind, by grind⟩
  | n + 2, _ => by
    obtain ⟨i, X, h1, h2, h3, h4⟩ := max_ab (x := x) (n := n + 1) (by omega)
    by_cases h : Ab (x (n + 1)) X
    · refine ⟨i, X, by omega, h2, h3, fun k hk => ?_⟩
      by_cases e : k = n + 1
      · subst e; exact h
      · exact h4 k (by omega)
    · by_cases h0 : 0 ≤ x (n + 1)
      · have hX : X < x (n + 1) := by
          by_cases h5 : X < x (n + 1)
          · exact h5
          · exact absurd ⟨by grind, Rat.not_lt.1 h5⟩ h
        refine ⟨n + 1, x (n + 1), by omega, .inl rfl, h0, fun k hk => ?_⟩
        by_cases e : k = n + 1
        · subst e; exact ⟨by grind, Rat.le_refl⟩
        · exact (h4 k (by omega)).mono (Rat.le_of_lt hX)
      · have hX : X < -x (n + 1) := by
          by_cases h5 : X < -x (n + 1)
          · exact h5
          · exact absurd ⟨by have := Rat.not_lt.1 h5; grind, by grind⟩ h
        refine ⟨n + 1, -x (n + 1), by omega, .inr (by grind), by grind, fun k hk => ?_⟩
        by_cases e : k = n + 1
        · subst e; exact ⟨by grind, by grind⟩
        · exact (h4 k (by omega)).mono (Rat.le_of_lt hX)
theorem rs_pick (f : Nat → Rat) (i : Nat) : ∀ n, rs f n = (if i < n then f i else 0) + rs (fun k => if k = i then 0 else f k) n
  | 0 => by unfold rs; rw [if_neg (by omega)]; grind
  | n + 1 => by
    show rs f n + f n = (if i < n + 1 then f i else 0) + (rs (fun k => if k = i then 0 else f k) n + (if n = i then 0 else f n))
    rw [rs_pick f i n]
    by_cases e : n = i
    · subst e; rw [if_neg (by omega), if_pos (by omega), if_pos rfl]; grind
    · by_cases h : i < n
      · rw [if_pos h, if_pos (by omega), if_neg e]; grind
      · rw [if_neg h, if_neg (by omega), if_neg e]; grind
theorem rs_hole {f : Nat → Rat} {i : Nat} {X : Rat} (h : ∀ k, k ≠ i → Ab (f k) X) (hX : 0 ≤ X) : ∀ n : Nat, i < n → Ab (rs (fun k => if k = i then 0 else f k) n) (((n - 1 : Nat) : Rat) * X) := by
  have low : ∀ n : Nat, n ≤ i → Ab (rs (fun k => if k = i then 0 else f k) n) ((n : Rat) * X) := fun n hn => rs_ab fun j hj => by rw [if_neg (by omega)]; exact h j (by omega)
  intro n
  induction n with
  | zero => intro h; omega
  | succ n ih =>
    intro hi
    show Ab (rs (fun k => if k = i then 0 else f k) n + (if n = i then 0 else f n)) _
    by_cases e : n = i
    · subst e
      rw [if_pos rfl, Nat.add_sub_cancel]
      have := low n (Nat.le_refl _)
      exact ⟨by have := this.1; grind, by have := this.2; grind⟩
    · rw [if_neg e]
      have := (ih (by omega)).add (h n e)
      rw [show ((n - 1 : Nat) : Rat) * X + X = ((n - 1 + 1 : Nat) : Rat) * X from by push_cast; grind, show n - 1 + 1 = n + 1 - 1 from by omega] at this
      exact this
theorem dom {n : Nat} {a : Nat → Nat → Rat} {x b : Nat → Rat} {δ γ C ρ M : Rat} (hn : 0 < n) (hd : ∀ i, i < n → δ ≤ a i i) (ho : ∀ i k, i < n → k < n → i ≠ k → Ab (a i k) γ) (hγ : 0 ≤ γ) (hb : ∀ i, i < n → Ab (b i) C) (hr : ∀ i, i < n → Ab (rs (fun k => a i k * x k) n - b i) ρ) (hM : C + ρ ≤ (δ - ((n - 1 : Nat) : Rat) * γ) * M) (hpos : 0 < δ - ((n - 1 : Nat) : Rat) * γ) : ∀ k, k < n → Ab (x k) M := by
  obtain ⟨i, X, h1, h2, h3, h4⟩ := max_ab (x := x) hn
  have e := rs_pick (fun k => a i k * x k) i n
  rw [if_pos h1] at e
  have hole : Ab (rs (fun k => if k = i then 0 else a i k * x k) n) (((n - 1 : Nat) : Rat) * (γ * X)) := by
    have : rs (fun k => if k = i then 0 else a i k * x k) n = rs (fun k => if k = i then 0 else (if k < n then a i k * x k else 0)) n := rs_congr fun k hk => by rw [if_pos hk]
    rw [this]
    exact rs_hole (fun k hk => by
      by_cases hkn : k < n
      · rw [if_pos hkn]; exact (ho i k h1 hkn (fun h => hk h.symm)).mul (h4 k hkn)
      · rw [if_neg hkn]; have := Rat.mul_nonneg hγ h3; exact ⟨by grind, by grind⟩) (Rat.mul_nonneg hγ h3) n h1
  have hR := hr i h1
  rw [e] at hR
  have hB := hb i h1
  generalize rs (fun k => if k = i then 0 else a i k * x k) n = T at *
  have hdi := hd i h1
  have : δ * X ≤ a i i * X := Rat.mul_le_mul_of_nonneg_right hdi h3
  have hm : Ab (a i i * x i) (C + ρ + ((n - 1 : Nat) : Rat) * (γ * X)) := by
    have := (hR.add hB).sub hole
    rw [show a i i * x i + T - b i + b i - T = a i i * x i from by grind] at this
    exact this.mono (by grind)
  have key : δ * X ≤ C + ρ + ((n - 1 : Nat) : Rat) * (γ * X) := by
    rcases h2 with h2 | h2
    · rw [h2] at hm; have := hm.2; grind
    · rw [h2] at hm; have := hm.1; grind
  have hXM : X ≤ M := by
    refine Rat.le_of_mul_le_mul_right (c := δ - ((n - 1 : Nat) : Rat) * γ) ?_ hpos
    grind
  exact fun k hk => (h4 k hk).mono hXM
theorem b10at {a : List Int} (ha : Byt a) {k n : Nat} (h1 : 1 ≤ n) (hk : k ≤ 1000) : ∃ v : Nat, v < n ∧ w_b10At a (k : Int) (n : Int) = some (v : Int) := by
  unfold w_b10At
  by_cases h : n ≤ 1
  · rw [decide_eq_true (by omega), bsel_true]; exact ⟨0, by omega, rfl⟩
  · rw [decide_eq_false (by omega), bsel_false]
    by_cases hl : k < a.length
    · obtain ⟨x, hx⟩ : ∃ x, a[k]? = some x := ⟨_, List.getElem?_eq_getElem hl⟩
      obtain ⟨x0, x1⟩ := ha x (List.mem_of_getElem? hx)
      rw [decide_eq_true (by omega), bsel_true, at?_of (by omega) (by rw [show (k : Int).toNat = k from by omega]; exact hx), obind_eq]
      simp only [olet_eq]
      rw [wi64 (by omega) (by omega), decide_eq_false (by omega), Bool.not_false, need_true]
      refine ⟨x.toNat % n, Nat.mod_lt _ (by omega), ?_⟩
      rw [Int.tmod_eq_emod_of_nonneg (by omega), Int.natCast_emod, show ((x.toNat : Nat) : Int) = x from by omega]
    · rw [decide_eq_false (by omega), bsel_false]
      simp only [olet_eq]
      rw [show IntKind.i64.wrap ((k : Int) * 37) = (k : Int) * 37 from wi64 (by omega) (by omega), show IntKind.i64.wrap ((k : Int) * 37 + 11) = (k : Int) * 37 + 11 from wi64 (by omega) (by omega), decide_eq_false (by omega), Bool.not_false, need_true]
      refine ⟨(k * 37 + 11) % n, Nat.mod_lt _ (by omega), ?_⟩
      rw [Int.tmod_eq_emod_of_nonneg (by omega), Int.natCast_emod]
      push_cast; rfl
theorem b10long {a b : List Int} : ∃ r, w_b10Long a b = some r := by
  unfold w_b10Long
  cases decide (1048576 < (a.length : Int)) with
  | true => exact ⟨_, rfl⟩
  | false => exact ⟨_, rfl⟩
theorem quarter_dy {n : Int} (h : n.natAbs ≤ 1000) : Dy .f32 2 n (fop .quo .f32 (fint .f32 n) (some 1082130432)) := by
  have hd : (2 : Nat) ^ dgn .f32 = 16777216 := by decide
  have h1 : Dy .f32 0 n (fint .f32 n) := Dy.int (by omega)
  have h2 := h1.scale (t := 2) (by decide)
  exact Dy.quo (s := 2) (t := 0) h2 four_dy (by decide) (by omega) (by omega)
theorem b10v_loop {a : List Int} (ha : Byt a) : ∀ (m t : Nat) (L : List F) (s : Int), t + m ≤ 800000 → L.length + m ≤ 1000 →
    ∃ (L' : List F), L'.length = m ∧ (∀ x ∈ L', Qd x) ∧ loopM (s_B10Vector_s1 a) (L, (t : Int), s, (m : Int)) = some (.inl (L ++ L'))
  | 0, t, L, s, ht, hL => by
    refine ⟨[], rfl, fun x hx => by simp at hx, ?_⟩
    rw [loopM_out (e := L)]
    · simp
    · show s_B10Vector_b1 a L (t : Int) s ((0 : Nat) : Int) = _
      unfold s_B10Vector_b1
      rw [decide_eq_false (by omega), bsel_false]
  | m + 1, t, L, s, ht, hL => by
    obtain ⟨v, t1, s1, hv, ht1, e⟩ := src_pick ha (n := 33) (t := t) (by decide) (by decide) (by omega) s
    have e : s_l00Src_pick_0p0_C0 33 a (t : Int) s = _ := e
    have st : s_B10Vector_s1 a (L, (t : Int), s, ((m + 1 : Nat) : Int)) = some (.next (L ++ [fop .quo .f32 (fint .f32 ((v : Int) - 16)) (some 1082130432)], (t1 : Int), s1, (m : Int))) := by
      show s_B10Vector_b1 a L (t : Int) s ((m + 1 : Nat) : Int) = _
      unfold s_B10Vector_b1
      rw [decide_eq_true (by omega), bsel_true, e, obind3_eq]
      simp only [olet_eq]
      rw [wi64 (by omega) (by omega), show apok 4 L.length 1 = true from by simp only [apok, Bool.and_eq_true, decide_eq_true_eq]; omega, need_true, wi64 (by omega) (by omega), show ((m + 1 : Nat) : Int) - 1 = (m : Int) from by omega]
    obtain ⟨L', h1, h3, h4⟩ := b10v_loop ha m t1 (L ++ [fop .quo .f32 (fint .f32 ((v : Int) - 16)) (some 1082130432)]) s1 (by omega) (by simp; omega)
    refine ⟨fop .quo .f32 (fint .f32 ((v : Int) - 16)) (some 1082130432) :: L', by simp [h1], ?_, ?_⟩
    · intro x hx
      rcases List.mem_cons.1 hx with rfl | hx
      · exact quarter (by omega)
      · exact h3 x hx
    · rw [loopM_next st, h4]; simp
theorem b10vector {a : List Int} (ha : Byt a) {n : Nat} (hn : n ≤ 500) : ∃ L : List F, L.length = n ∧ (∀ x ∈ L, Qd x) ∧ s_B10Vector a (n : Int) = some L := by
  obtain ⟨L, h1, h2, h3⟩ := b10v_loop ha n 0 [] 0 (by omega) (by simp; omega)
  refine ⟨L, h1, h2, ?_⟩
  unfold s_B10Vector s_l00From
  have h3 : loopM (s_B10Vector_s1 a) ([], 0, 0, (n : Int)) = _ := h3
  rw [obind3_eq, h3, obind_eq, osum_inl, List.nil_append]; rfl
theorem qd_fv {x : F} (h : Qd x) : Fv x ∧ Ab (vl x) 4 := by
  have h1 := (qd_dy h).fv
  have h2 := qv_le x
  refine ⟨h1.1, ?_⟩
  rw [h1.2]
  have e : (2 : Rat) ^ 2 = 4 := by decide +kernel
  rw [e]
  have l1 : ((-16 : Int) : Rat) ≤ ((qv x : Int) : Rat) := by exact_mod_cast (show (-16 : Int) ≤ qv x by omega)
  have l2 : ((qv x : Int) : Rat) ≤ ((16 : Int) : Rat) := by exact_mod_cast (show qv x ≤ (16 : Int) by omega)
  have c1 : ((-16 : Int) : Rat) = -16 := by decide +kernel
  have c2 : ((16 : Int) : Rat) = 16 := by decide +kernel
  rw [c1] at l1
  rw [c2] at l2
  generalize ((qv x : Int) : Rat) = q at *
  exact ⟨by grind, by grind⟩
def SqE (i k : Nat) (x : F) : Prop := ∃ q : Int, Dy .f32 2 q x ∧ (i = k → 24 ≤ q ∧ q ≤ 32) ∧ (i ≠ k → q.natAbs ≤ 4)
structure SqM (n : Nat) (L : List F) : Prop where
  m : Mat n n L
  e : ∀ i k, i < n → k < n → SqE i k (gm none L n i k)
theorem sq_inner {a : List Int} (ha : Byt a) {n i : Nat} (hn : n ≤ 12) (hi : i < n) : ∀ (m k t : Nat) (L : List F) (s : Int), k + m = n → t + 2 * m ≤ 800000 → L.length = i * n + k →
    ∃ (L' : List F) (t' : Nat) (s' : Int), L'.length = m ∧ t' ≤ t + 2 * m ∧ (∀ j, j < m → SqE i (k + j) (L'.getD j none)) ∧ loopM (s_B10Square_s6 (n : Int) a (i : Int)) (L, (t : Int), s, (k : Int)) = some (.inl (L ++ L', (t' : Int), s'))
  | 0, k, t, L, s, hk, ht, hL => by
    refine ⟨[], t, s, rfl, by omega, fun j hj => by omega, ?_⟩
    rw [loopM_out (e := (L, (t : Int), s))]
    · simp
    · show s_B10Square_b6 (n : Int) a (i : Int) L (t : Int) s (k : Int) = _
      unfold s_B10Square_b6
      rw [decide_eq_false (by omega), bsel_false]
  | m + 1, k, t, L, s, hk, ht, hL => by
    obtain ⟨v, t1, s1, hv, ht1, e⟩ := src_pick ha (n := 9) (t := t) (by decide) (by decide) (by omega) s
    have e : s_l00Src_pick_0p0_C0 9 a (t : Int) s = _ := e
    have hin : i * n ≤ 144 := Nat.le_trans (Nat.mul_le_mul (show i ≤ 12 by omega) hn) (by decide)
    have st : ∃ (x : F) (t2 : Nat) (s2 : Int), t2 ≤ t + 2 ∧ SqE i k x ∧ s_B10Square_s6 (n : Int) a (i : Int) (L, (t : Int), s, (k : Int)) = some (.next (L ++ [x], (t2 : Int), s2, ((k + 1 : Nat) : Int))) := by
      have ap : apok 4 L.length 1 = true := by simp only [apok, Bool.and_eq_true, decide_eq_true_eq]; omega
      by_cases hik : i = k
      · obtain ⟨v2, t2, s2, hv2, ht2, e2⟩ := src_pick ha (n := 9) (t := t1) (by decide) (by decide) (by omega) s1
        have e2 : s_l00Src_pick_0p0_C0 9 a (t1 : Int) s1 = _ := e2
        refine ⟨fop .quo .f32 (fint .f32 (24 + (v2 : Int))) (some 1082130432), t2, s2, by omega, ⟨24 + (v2 : Int), quarter_dy (by omega), fun _ => by omega, fun h => absurd hik h⟩, ?_⟩
        show s_B10Square_b6 (n : Int) a (i : Int) L (t : Int) s (k : Int) = _
        unfold s_B10Square_b6
        rw [decide_eq_true (by omega), bsel_true, e, obind3_eq]
        simp only [olet_eq]
        rw [decide_eq_true (by omega), bsel_true, e2, obind3_eq, wi64 (by omega) (by omega)]
        unfold s_B10Square_k5
        rw [ap, need_true, olet_eq, wsucc (by omega)]
      · refine ⟨fop .quo .f32 (fint .f32 ((v : Int) - 4)) (some 1082130432), t1, s1, by omega, ⟨(v : Int) - 4, quarter_dy (by omega), fun h => absurd h hik, fun _ => by omega⟩, ?_⟩
        show s_B10Square_b6 (n : Int) a (i : Int) L (t : Int) s (k : Int) = _
        unfold s_B10Square_b6
        rw [decide_eq_true (by omega), bsel_true, e, obind3_eq]
        simp only [olet_eq]
        rw [decide_eq_false (by omega), bsel_false, wi64 (by omega) (by omega)]
        unfold s_B10Square_k5
        rw [ap, need_true, olet_eq, wsucc (by omega)]
    obtain ⟨x, t2, s2, ht2, hx, st⟩ := st
    obtain ⟨L', t', s', h1, h2, h3, h4⟩ := sq_inner ha hn hi m (k + 1) t2 (L ++ [x]) s2 (by omega) (by omega) (by simp [hL]; omega)
    refine ⟨x :: L', t', s', by simp [h1], by omega, fun j hj => ?_, by rw [loopM_next st, h4]; simp⟩
    match j with
    | 0 => exact hx
    | j + 1 => rw [show k + (j + 1) = k + 1 + j from by omega]; exact h3 j (by omega)
theorem divmod_at {n i r : Nat} (h : r < n) : (i * n + r) / n = i ∧ (i * n + r) % n = r := by
  have h0 : 0 < n := by omega
  constructor
  · rw [Nat.mul_comm, Nat.mul_add_div h0, Nat.div_eq_of_lt h]; omega
  · rw [Nat.mul_comm, Nat.mul_add_mod, Nat.mod_eq_of_lt h]
theorem sq_outer {a : List Int} (ha : Byt a) {n : Nat} (hn : n ≤ 12) : ∀ (m i t : Nat) (L : List F) (s : Int), i + m = n → t + 24 * m ≤ 700000 → L.length = i * n → (∀ p, p < L.length → SqE (p / n) (p % n) (L.getD p none)) →
    ∃ (L' : List F), L'.length = n * n ∧ (∀ p, p < L'.length → SqE (p / n) (p % n) (L'.getD p none)) ∧ loopM (s_B10Square_s7 (n : Int) a) (L, (t : Int), s, (i : Int)) = some (.inl L')
  | 0, i, t, L, s, hi, ht, hL, hP => by
    have : i = n := by omega
    subst this
    refine ⟨L, hL, hP, ?_⟩
    rw [loopM_out (e := L)]
    show s_B10Square_b7 (i : Int) a L (t : Int) s (i : Int) = _
    unfold s_B10Square_b7
    rw [dnlt, bsel_false]
  | m + 1, i, t, L, s, hi, ht, hL, hP => by
    obtain ⟨R, t1, s1, h1, h2, h3, h4⟩ := sq_inner ha hn (show i < n by omega) n 0 t L s (by omega) (by omega) (by omega)
    have st : s_B10Square_s7 (n : Int) a (L, (t : Int), s, (i : Int)) = some (.next (L ++ R, (t1 : Int), s1, ((i + 1 : Nat) : Int))) := by
      show s_B10Square_b7 (n : Int) a L (t : Int) s (i : Int) = _
      unfold s_B10Square_b7
      have h4 : loopM (s_B10Square_s6 (n : Int) a (i : Int)) (L, (t : Int), s, 0) = _ := h4
      rw [dlt (by omega), bsel_true, h4, obind_eq, osum_inl]
      unfold s_B10Square_k6
      rw [olet_eq, wsucc (by omega)]
    have hn0 : 0 < n := by omega
    obtain ⟨L', g1, g2, g3⟩ := sq_outer ha hn m (i + 1) t1 (L ++ R) s1 (by omega) (by omega) (by rw [List.length_append, hL, h1, Nat.add_mul, Nat.one_mul]) (fun p hp => by
      rw [List.length_append, h1] at hp
      by_cases hpl : p < L.length
      · rw [getD_appG hpl]; exact hP p hpl
      · have e : (L ++ R).getD p none = R.getD (p - L.length) none := by
          rw [List.getD_eq_getElem?_getD, List.getElem?_append_right (by omega), ← List.getD_eq_getElem?_getD]
        have := h3 (p - L.length) (by omega)
        rw [e]
        rw [hL] at hpl hp this ⊢
        obtain ⟨r, rfl⟩ : ∃ r, p = i * n + r := ⟨p - i * n, by omega⟩
        obtain ⟨e1, e2⟩ := divmod_at (i := i) (show r < n by omega)
        rw [e1, e2]
        rw [Nat.add_sub_cancel_left] at this ⊢
        rw [Nat.zero_add] at this; exact this)
    exact ⟨L', g1, g2, by rw [loopM_next st, g3]⟩
theorem b10square {a : List Int} (ha : Byt a) {n : Nat} (hn : n ≤ 12) : ∃ L : List F, SqM n L ∧ s_B10Square a (n : Int) = some ((n : Int), (n : Int), L) := by
  obtain ⟨L, h1, h2, h3⟩ := sq_outer ha hn n 0 0 [] 0 (by omega) (by omega) (by simp) (fun p hp => by simp at hp)
  refine ⟨L, ⟨⟨hn, hn, h1⟩, fun i k hi hk => ?_⟩, ?_⟩
  · have := h2 (i * n + k) (by rw [h1]; exact idx_lt hi hk)
    obtain ⟨e1, e2⟩ := divmod_at (i := i) hk
    rw [e1, e2] at this
    exact this
  · unfold s_B10Square s_l00From s_l02Blank
    have h3 : loopM (s_B10Square_s7 (n : Int) a) ([], 0, 0, 0) = _ := h3
    rw [obind3_eq, obind3_eq, h3, obind_eq, osum_inl]; rfl
theorem sqE_fv {i k : Nat} {x : F} (h : SqE i k x) : Fv x ∧ (i = k → 6 ≤ vl x ∧ vl x ≤ 8) ∧ (i ≠ k → Ab (vl x) 1) := by
  obtain ⟨q, h1, h2, h3⟩ := h
  have g := h1.fv
  refine ⟨g.1, fun e => ?_, fun e => ?_⟩ <;> rw [g.2, show (2 : Rat) ^ 2 = 4 from by decide +kernel]
  · obtain ⟨a, b⟩ := h2 e
    have l1 : ((24 : Int) : Rat) ≤ ((q : Int) : Rat) := by exact_mod_cast a
    have l2 : ((q : Int) : Rat) ≤ ((32 : Int) : Rat) := by exact_mod_cast b
    rw [show ((24 : Int) : Rat) = 24 from by decide +kernel] at l1
    rw [show ((32 : Int) : Rat) = 32 from by decide +kernel] at l2
    generalize ((q : Int) : Rat) = z at *
    exact ⟨by grind, by grind⟩
  · have a := h3 e
    have l1 : ((-4 : Int) : Rat) ≤ ((q : Int) : Rat) := by exact_mod_cast (show (-4 : Int) ≤ q by omega)
    have l2 : ((q : Int) : Rat) ≤ ((4 : Int) : Rat) := by exact_mod_cast (show q ≤ (4 : Int) by omega)
    rw [show ((-4 : Int) : Rat) = -4 from by decide +kernel] at l1
    rw [show ((4 : Int) : Rat) = 4 from by decide +kernel] at l2
    generalize ((q : Int) : Rat) = z at *
    exact ⟨by grind, by grind⟩
theorem SqM.oks {n : Nat} {L : List F} (h : SqM n L) : ∀ x ∈ L, Fv x := fun x hx => by
  obtain ⟨i, k, hi, hk, rfl⟩ := mem_gm h.m hx
  exact (sqE_fv (h.e i k hi hk)).1
theorem one_fv : Fv (some 1065353216) ∧ vl (some 1065353216) = 1 := by
  have e : fint .f32 1 = some 1065353216 := by decide +kernel
  have := (Dy.int (k := .f32) (n := 1) (by decide)).fv
  rw [e, show ((1 : Int) : Rat) / 2 ^ 0 = 1 from by decide +kernel] at this
  exact this
def tO : Nat → Rat | 0 => 1 | 1 => 1168 / 1000 | 2 => 1403 / 1000 | 3 => 1755 / 1000 | 4 => 2344 / 1000 | _ => 4
def tD : Nat → Rat | 0 => 6 | 1 => 5832 / 1000 | 2 => 5597 / 1000 | 3 => 5245 / 1000 | 4 => 4656 / 1000 | _ => 3
def tQ : Nat → Rat | 0 => 168 / 1000 | 1 => 235 / 1000 | 2 => 352 / 1000 | 3 => 589 / 1000 | _ => 1190 / 1000
theorem getD_mem {l : List F} {i : Nat} (h : i < l.length) : l.getD i none ∈ l := List.mem_of_getElem? (getD_of_lt none h)
theorem mem_getD {l : List F} {x : F} (h : x ∈ l) : ∃ i, i < l.length ∧ x = l.getD i none := by
  obtain ⟨i, hi, rfl⟩ := List.mem_iff_getElem.1 h
  exact ⟨i, hi, by rw [List.getD_eq_getElem?_getD, List.getElem?_eq_getElem hi]; rfl⟩
theorem dy_fix {n : Int} {s w : Nat} (h1 : w < 2 ^ FloatKind.f32.format.width) (h2 : wrung FloatKind.f32.format w < FloatKind.f32.format.infRung) (h3 : s ≤ lpn .f32) (h4 : fval .f32 w = n * ((2 ^ (lpn .f32 - s) : Nat) : Int)) : Dy .f32 s n (some w) := ⟨w, rfl, h1, h2, h3, h4⟩
theorem fv_abs {c : F} (h : Fv c) : Fv (fabs32 c) ∧ (vl (fabs32 c) = vl c ∨ vl (fabs32 c) = -vl c) ∧ 0 ≤ vl (fabs32 c) := by
  obtain ⟨n, ⟨b, e, h1, h2, _, h3⟩, h4⟩ := h.rv
  subst e
  have hp := p2 (lpn .f32)
  have w := rv_word (k := .f32) (s := false) (r := wrung FloatKind.f32.format b) h2
  have ew : FloatKind.f32.format.word false (wrung FloatKind.f32.format b) = b % 2147483648 := rfl
  rw [ew] at w
  have e2 : fabs32 (some b) = some (b % 2147483648) := rfl
  rw [e2]
  have v := w.vl
  unfold sg at v
  simp only [Bool.false_eq_true, if_false] at v
  have r0 : (0 : Rat) ≤ ((rval FloatKind.f32.format (wrung FloatKind.f32.format b) : Nat) : Rat) := by exact_mod_cast Nat.zero_le _
  have d := div_mul_pos (a := ((rval FloatKind.f32.format (wrung FloatKind.f32.format b) : Nat) : Rat)) hp
  refine ⟨w.fv, ?_, by rw [v]; exact div_nonneg hp r0⟩
  rw [v]
  rw [Nat.sub_self] at h3
  unfold fval at h3
  have h5 : sval (wneg FloatKind.f32.format b) (rval FloatKind.f32.format (wrung FloatKind.f32.format b)) = n := by simpa using h3
  rw [← h5] at h4
  generalize ((rval FloatKind.f32.format (wrung FloatKind.f32.format b) : Nat) : Rat) / 2 ^ lpn .f32 = z at *
  unfold sval at h4
  cases hw : wneg FloatKind.f32.format b with
  | false =>
    rw [hw] at h4
    left
    simp only [Bool.false_eq_true, if_false, Rat.intCast_natCast] at h4
    have : (z - vl (some b)) * 2 ^ lpn .f32 = 0 := by grind
    rcases Rat.mul_eq_zero.1 this with h | h <;> grind
  | true =>
    rw [hw] at h4
    right
    simp only [if_true] at h4
    push_cast at h4
    have : (z + vl (some b)) * 2 ^ lpn .f32 = 0 := by grind
    rcases Rat.mul_eq_zero.1 this with h | h <;> grind
theorem find_diag {n k : Nat} {L : List F} (hk : Fv (gm none L n k k)) (h : ∀ r, k < r → r < n → Fv (gm none L n r k) ∧ Ab (vl (gm none L n r k)) (vl (gm none L n k k))) : ∀ m, k + 1 + m ≤ n → run (findP n k L) (k + 1) m k = k
  | 0, _ => rfl
  | m + 1, hm => by
    rw [run_last, find_diag hk h m (by omega)]
    unfold findP
    obtain ⟨f1, b1⟩ := h (k + 1 + m) (by omega) (by omega)
    obtain ⟨a1, a2, a3⟩ := fv_abs f1
    obtain ⟨c1, c2, c3⟩ := fv_abs hk
    have n0 := b1.nonneg
    rw [fv_lt c1 a1, decide_eq_false, if_neg (by decide)]
    obtain ⟨b2, b3⟩ := b1
    rcases a2 with a2 | a2 <;> rcases c2 with c2 | c2 <;> rw [a2, c2] <;> grind
theorem swapP_self {n k c : Nat} {L : List F} (m : Mat n n L) (hk : k < n) (hc : c < n) : swapP none n k k c L = L := by
  refine mat_ext (swapP_mat m) m fun i j hi hj => ?_
  unfold swapP
  rw [gm_set (m.set _ _ _) hk hc hj, gm_set m hk hc hj]
  by_cases e : k = i ∧ c = j
  · obtain ⟨rfl, rfl⟩ := e; rw [if_pos ⟨rfl, rfl⟩]
  · rw [if_neg e, if_neg e]
theorem swapR_self {n k : Nat} {L : List F} (m : Mat n n L) (hk : k < n) : swapR none n k k L = L := by
  unfold swapR
  have := run_inv (f := swapP none n k k) (fun _ L' => L' = L) n 0 L rfl fun j L' _ hj h => by rw [h]; exact swapP_self m hk (by omega)
  exact this
theorem tradeP_self {k : Nat} {o : List Int} (hk : k < o.length) : tradeP k k o = o := by
  unfold tradeP
  apply List.ext_getElem?
  intro i
  by_cases e : k = i
  · subst e
    rw [List.getElem?_set_self (by simp [hk]), getD_of_lt 0 hk]
  · rw [List.getElem?_set_ne e, List.getElem?_set_ne e]
theorem elimRow_gm {n k r : Nat} {L : List F} (m : Mat n n L) (hr : r < n) (hk : k < n) (hkr : k < r) : ∀ j, j < n → gm none (elimRow n k r L) n r j = if j < k then gm none L n r j else if j = k then fop .quo .f32 (gm none L n r k) (gm none L n k k) else fop .sub .f32 (gm none L n r j) (fop .mul .f32 (fop .quo .f32 (gm none L n r k) (gm none L n k k)) (gm none L n k j)) := by
  unfold elimRow
  generalize fop .quo .f32 (gm none L n r k) (gm none L n k k) = f
  have inv := run_inv (f := elimE n k r f) (fun q (L' : List F) => Mat n n L' ∧ (∀ j, j < n → gm none L' n k j = gm none L n k j) ∧ ∀ j, j < n → gm none L' n r j = if j < k then gm none L n r j else if j = k then f else if j < q then fop .sub .f32 (gm none L n r j) (fop .mul .f32 f (gm none L n k j)) else gm none L n r j) (n - (k + 1)) (k + 1) (sm L n r k f)
    ⟨m.set _ _ _, fun j hj => by rw [gm_set m hr hk hj, if_neg (by omega)], fun j hj => by
      rw [gm_set m hr hk hj]
      by_cases e : j < k
      · rw [if_neg (by omega), if_pos e]
      · rw [if_neg e]
        by_cases e2 : j = k
        · rw [if_pos ⟨rfl, e2.symm⟩, if_pos e2]
        · rw [if_neg (by omega), if_neg e2, if_neg (by omega)]⟩
    (fun q L' h1 h2 ⟨i1, i2, i3⟩ => by
      have hq : q < n := by omega
      refine ⟨elimE_mat i1, fun j hj => by unfold elimE; rw [gm_set i1 hr hq hj, if_neg (by omega)]; exact i2 j hj, fun j hj => ?_⟩
      have v1 : gm none L' n r q = gm none L n r q := by rw [i3 q hq, if_neg (by omega), if_neg (by omega), if_neg (by omega)]
      unfold elimE
      rw [gm_set i1 hr hq hj, v1, i2 q hq, i3 j hj]
      by_cases e : q = j
      · subst e
        rw [if_pos ⟨rfl, rfl⟩, if_neg (by omega), if_neg (by omega), if_pos (by omega)]
      · rw [if_neg (by omega)]
        by_cases e1 : j < k
        · rw [if_pos e1, if_pos e1]
        · rw [if_neg e1, if_neg e1]
          by_cases e2 : j = k
          · rw [if_pos e2, if_pos e2]
          · rw [if_neg e2, if_neg e2]
            by_cases e3 : j < q
            · rw [if_pos e3, if_pos (by omega)]
            · rw [if_neg e3, if_neg (by omega)])
  intro j hj
  have := inv.2.2 j hj
  rw [this]
  by_cases e1 : j < k
  · rw [if_pos e1, if_pos e1]
  · rw [if_neg e1, if_neg e1]
    by_cases e2 : j = k
    · rw [if_pos e2, if_pos e2]
    · rw [if_neg e2, if_neg e2, if_pos (by omega)]
theorem elim_gm {n k : Nat} {L : List F} (m : Mat n n L) (hk : k < n) : ∀ i j, i < n → j < n → gm none (elimP n n k L) n i j = if k < i then (if j < k then gm none L n i j else if j = k then fop .quo .f32 (gm none L n i k) (gm none L n k k) else fop .sub .f32 (gm none L n i j) (fop .mul .f32 (fop .quo .f32 (gm none L n i k) (gm none L n k k)) (gm none L n k j))) else gm none L n i j := by
  unfold elimP
  have inv := run_inv (f := elimRow n k) (fun q (L' : List F) => Mat n n L' ∧ ∀ i j, i < n → j < n → gm none L' n i j = if k < i ∧ i < q then (if j < k then gm none L n i j else if j = k then fop .quo .f32 (gm none L n i k) (gm none L n k k) else fop .sub .f32 (gm none L n i j) (fop .mul .f32 (fop .quo .f32 (gm none L n i k) (gm none L n k k)) (gm none L n k j))) else gm none L n i j) (n - (k + 1)) (k + 1) L
    ⟨m, fun i j hi hj => by rw [if_neg (by omega)]⟩ (fun q L' h1 h2 ⟨i1, i2⟩ => by
      have hq : q < n := by omega
      refine ⟨elimRow_mat i1, fun i j hi hj => ?_⟩
      by_cases e : q = i
      · subst e
        have G := elimRow_gm i1 hq hk (by omega) j hj
        have r1 : ∀ j, j < n → gm none L' n q j = gm none L n q j := fun j hj => by rw [i2 q j hq hj, if_neg (by omega)]
        have r2 : ∀ j, j < n → gm none L' n k j = gm none L n k j := fun j hj => by rw [i2 k j hk hj, if_neg (by omega)]
        rw [r1 j hj, r1 k hk, r2 k hk, r2 j hj] at G
        rw [G, if_pos (show k < q ∧ q < q + 1 by omega)]
      · rw [elimRow_keep i1 hq hk hj e, i2 i j hi hj]
        by_cases e2 : k < i ∧ i < q
        · rw [if_pos e2, if_pos (show k < i ∧ i < q + 1 by omega)]
        · rw [if_neg e2, if_neg (show ¬ (k < i ∧ i < q + 1) by omega)])
  intro i j hi hj
  rw [inv.2 i j hi hj]
  by_cases e : k < i
  · rw [if_pos (show k < i ∧ i < k + 1 + (n - (k + 1)) by omega), if_pos e]
  · rw [if_neg (show ¬ (k < i ∧ i < k + 1 + (n - (k + 1))) by omega), if_neg e]
def slu (a w : Nat → Nat → Rat) (j i c : Nat) : Rat := a i c - rs (fun t => w i t * w t c) j
theorem slu_succ (a w : Nat → Nat → Rat) (j i c : Nat) : slu a w (j + 1) i c = slu a w j i c - w i j * w j c := by
  show a i c - (rs (fun t => w i t * w t c) j + w i j * w j c) = a i c - rs (fun t => w i t * w t c) j - w i j * w j c
  grind
theorem slu_zero (a w : Nat → Nat → Rat) (i c : Nat) : slu a w 0 i c = a i c := by
  show a i c - 0 = a i c
  grind
theorem prodl_bound {u v p s1 s2 s3 O D q c : Rat} (h1 : Ab (u * p - s1) c) (h2 : Ab (v - s2) c) (h3 : Ab (p - s3) c) (b1 : Ab s1 O) (b2 : Ab s2 O) (b3 : D ≤ s3) (hq : (O + c) * (O + c) ≤ q * (D - c)) (hD : 0 < D - c) (q0 : 0 ≤ q) : Ab (u * v) q := by
  have a1 : Ab (u * p) (O + c) := by
    have := h1.add b1
    rw [show u * p - s1 + s1 = u * p from by grind] at this
    exact this.mono (by grind)
  have a2 : Ab v (O + c) := by
    have := h2.add b2
    rw [show v - s2 + s2 = v from by grind] at this
    exact this.mono (by grind)
  have pp : D - c ≤ p := by have := h3.1; grind
  have m := a1.mul a2
  rw [show u * p * v = u * v * p from by grind] at m
  have qp : q * (D - c) ≤ q * p := Rat.mul_le_mul_of_nonneg_left pp q0
  have pos : 0 < p := by grind
  obtain ⟨m1, m2⟩ := m
  exact ⟨Rat.le_of_mul_le_mul_right (c := p) (by grind) pos, Rat.le_of_mul_le_mul_right (c := p) (by grind) pos⟩
def tU : Nat → Rat | 0 => 8 | 1 => 8168 / 1000 | 2 => 8403 / 1000 | 3 => 8755 / 1000 | 4 => 9344 / 1000 | _ => 11
structure Lud (n : Nat) (a w : Nat → Nat → Rat) (k : Nat) : Prop where
  lo : ∀ i t, t < k → t < i → i < n → Ab (w i t * w t t - slu a w t i t) cE
  up : ∀ i j, i < k → i ≤ j → j < n → Ab (w i j - slu a w i i j) cE
structure LuInv (n : Nat) (a : Nat → Nat → Rat) (k : Nat) (L : List F) : Prop where
  m : Mat n n L
  fv : ∀ i j, i < n → j < n → Fv (gm none L n i j)
  d : Lud n a (vm n L) k
  act : ∀ i j, k ≤ i → k ≤ j → i < n → j < n → Ab (vm n L i j - slu a (vm n L) k i j) ((k : Rat) * (1 / 400000))
theorem slu_congr {a w w' : Nat → Nat → Rat} {j i c : Nat} (h1 : ∀ t, t < j → w' i t = w i t) (h2 : ∀ t, t < j → w' t c = w t c) : slu a w' j i c = slu a w j i c := by
  unfold slu; rw [rs_congr fun t ht => by rw [h1 t ht, h2 t ht]]
theorem post_quo {d z : F} {S δ Δ bq : Rat} (hd : Fv d) (d1 : δ ≤ vl d) (d2 : vl d ≤ Δ) (δ0 : 1 / 2 ≤ δ) (hz : Fv z) (hS : Ab (vl z) S) (hb : S ≤ δ * (bq - 1 / 1000)) (hb1 : 1 / 1000 ≤ bq) (hb2 : bq ≤ 1000) : Fv (fop .quo .f32 z d) ∧ Ab (vl (fop .quo .f32 z d)) bq ∧ Ab (vl d * vl (fop .quo .f32 z d) - vl z) (Δ * e32 bq) := by
  have dpos : 0 < vl d := by grind
  have dne : vl d ≠ 0 := by grind
  have hdb : δ * (bq - 1 / 1000) ≤ vl d * (bq - 1 / 1000) := Rat.mul_le_mul_of_nonneg_right d1 (by grind)
  have e1 : vl z / vl d * vl d = vl z := by grind
  have hq : Ab (vl z / vl d) (bq - 1 / 1000) := by
    obtain ⟨a1, a2⟩ := hS
    exact ⟨Rat.le_of_mul_le_mul_right (c := vl d) (by rw [e1]; grind) dpos, Rat.le_of_mul_le_mul_right (c := vl d) (by rw [e1]; grind) dpos⟩
  obtain ⟨q1, q2⟩ := fv_quo hz hd dne (hq.mono (f := bq) (by grind)) (by grind)
  have e3 : e32 bq ≤ 1 / 1000 := by unfold e32; grind
  refine ⟨q1, ?_, ?_⟩
  · have := q2.add hq
    rw [show vl (fop .quo .f32 z d) - vl z / vl d + vl z / vl d = vl (fop .quo .f32 z d) from by grind] at this
    exact this.mono (by grind)
  · have hΔ : Ab (vl d) Δ := ⟨by grind, d2⟩
    have := hΔ.mul q2
    rw [show vl d * (vl (fop .quo .f32 z d) - vl z / vl d) = vl d * vl (fop .quo .f32 z d) - vl z from by grind] at this
    exact this
def fy : Nat → Rat | 0 => 401 / 100 | 1 => 538 / 100 | 2 => 721 / 100 | 3 => 966 / 100 | _ => 1295 / 100
def fx : Nat → Rat | 0 => 280 / 100 | 1 => 386 / 100 | 2 => 533 / 100 | 3 => 735 / 100 | _ => 1014 / 100
def gx : Nat → Rat | 0 => 317 / 100 | 1 => 425 / 100 | 2 => 570 / 100 | 3 => 764 / 100 | _ => 1024 / 100
structure TrF (n : Nat) (a : Nat → Nat → Rat) (M : List F) : Prop where
  m : Mat n n M
  n5 : n ≤ 5
  fe : ∀ i j, i < n → j < n → Fv (gm none M n i j)
  dia : ∀ i, i < n → 464 / 100 ≤ vm n M i i ∧ vm n M i i ≤ 95 / 10
  up : ∀ i j, i < j → j < n → Ab (vm n M i j) (176 / 100)
  lo : ∀ i j, j < i → i < n → Ab (vm n M i j) (34 / 100)
  prodU : ∀ i j, i ≤ j → j < n → Ab (rs (fun t => vm n M i t * vm n M t j) i + vm n M i j - a i j) cE
  prodL : ∀ i j, j < i → i < n → Ab (rs (fun t => vm n M i t * vm n M t j) (j + 1) - a i j) cE
theorem upTo_at {n i : Nat} (h : i < n) : (upTo n).getD i 0 = (i : Int) := by
  unfold upTo
  rw [List.getD_eq_getElem?_getD, List.getElem?_map, List.getElem?_range h]; rfl
theorem TrF.fv {n : Nat} {a : Nat → Nat → Rat} {M : List F} (H : TrF n a M) : ∀ x ∈ M, Fv x := fun x hx => by
  obtain ⟨i, j, hi, hj, rfl⟩ := mem_gm H.m hx
  exact H.fe i j hi hj
theorem ordC_upTo {n : Nat} {b : List F} (hb : b.length = n) : ordC (upTo n) b n = b := by
  apply List.ext_getElem?
  intro i
  by_cases hi : i < n
  · rw [getD_of_lt none (by rw [ordC_len]; exact hi), ordC_at hi, upTo_at hi, getD_of_lt none (by omega)]; rfl
  · rw [List.getElem?_eq_none (by rw [ordC_len]; omega), List.getElem?_eq_none (by omega)]
noncomputable def pL (n : Nat) (M : List F) (i t : Nat) : Rat := if t < i then vm n M i t else if t = i then 1 else 0
noncomputable def qU (n : Nat) (M : List F) (t k : Nat) : Rat := if t ≤ k then vm n M t k else 0
def prn (x : Nat → Rat) (X : Rat) (a : Nat) : Nat → Rat
  | 0 => 1
  | m + 1 => prn x X a m * (X - x (a + m))
def npol (T : Nat → Nat → Rat) (x : Nat → Rat) (X : Rat) (a : Nat) : Nat → Rat
  | 0 => 0
  | m + 1 => npol T x X a m + T m (a + m) * prn x X a m
def ndel (T : Nat → Nat → Rat) (x : Nat → Rat) (v b : Nat) : Rat := T (v + 1) b * (x b - x (b - (v + 1))) - (T v b - T v (b - 1))
def nerr (T : Nat → Nat → Rat) (x : Nat → Rat) (X : Rat) (a : Nat) : Nat → Rat
  | 0 => 0
  | m + 1 => nerr T x X a m + ndel T x m (a + m + 1) * prn x X (a + 1) m
theorem prn_head (x : Nat → Rat) (X : Rat) (a : Nat) : ∀ m, prn x X a (m + 1) = (X - x a) * prn x X (a + 1) m
  | 0 => by show 1 * (X - x (a + 0)) = (X - x a) * 1; rw [Nat.add_zero]; grind
  | m + 1 => by
    show prn x X a (m + 1) * (X - x (a + (m + 1))) = (X - x a) * (prn x X (a + 1) m * (X - x (a + 1 + m)))
    rw [prn_head x X a m, show a + (m + 1) = a + 1 + m from by omega]; grind
theorem npol_shift (T : Nat → Nat → Rat) (x : Nat → Rat) (X : Rat) (a : Nat) : ∀ m, npol T x X a (m + 1) = npol T x X (a + 1) m + T m (a + m) * prn x X (a + 1) m + nerr T x X a m
  | 0 => by show 0 + T 0 (a + 0) * 1 = 0 + T 0 (a + 0) * 1 + 0; grind
  | m + 1 => by
    show npol T x X a (m + 1) + T (m + 1) (a + (m + 1)) * prn x X a (m + 1) = npol T x X (a + 1) m + T m (a + 1 + m) * prn x X (a + 1) m + T (m + 1) (a + (m + 1)) * (prn x X (a + 1) m * (X - x (a + 1 + m))) + (nerr T x X a m + ndel T x m (a + m + 1) * prn x X (a + 1) m)
    rw [npol_shift T x X a m, prn_head]
    unfold ndel
    rw [show a + 1 + m = a + m + 1 from by omega, show a + (m + 1) = a + m + 1 from by omega, show a + m + 1 - (m + 1) = a from by omega, show a + m + 1 - 1 = a + m from by omega]
    generalize prn x X (a + 1) m = p
    grind
theorem npol_node (T : Nat → Nat → Rat) (x : Nat → Rat) (a m : Nat) : npol T x (x (a + (m + 1))) a (m + 2) = npol T x (x (a + (m + 1))) (a + 1) (m + 1) + nerr T x (x (a + (m + 1))) a (m + 1) := by
  rw [npol_shift T x _ a (m + 1)]
  have : prn x (x (a + (m + 1))) (a + 1) (m + 1) = 0 := by
    show prn x _ (a + 1) m * (x (a + (m + 1)) - x (a + 1 + m)) = 0
    rw [show a + 1 + m = a + (m + 1) from by omega]; grind
  rw [this]; grind
def pX (c : Nat) : Nat → Rat
  | 0 => 1
  | j + 1 => pX c j * (3 / 2 * ((c - j : Nat) : Rat))
def mT : Nat → Rat | 0 => 4 | 1 => 16001 / 1000 | 2 => 32003 / 1000 | 3 => 42672 / 1000 | 4 => 42674 / 1000 | _ => 34142 / 1000
def sT (v : Nat) : Rat := 2 * mT v + h32 (2 * mT v)
def eT (v : Nat) : Rat := h32 (2 * mT v) + sT v / 8388608 + 1 / 10000000000000
def eB (m : Nat) : Rat := rs (fun j => eT j * pX (m - 1) j) m
def eK (k : Nat) : Rat := rs (fun j => eB (j + 1)) k
structure Nod (n : Nat) (T : Nat → Nat → Rat) (x : Nat → Rat) : Prop where
  n6 : n ≤ 6
  lo : ∀ i j, i + j < n → ((j : Rat)) / 2 ≤ x (i + j) - x i
  hi : ∀ i j, i + j < n → x (i + j) - x i ≤ 3 / 2 * (j : Rat)
  t : ∀ v b, v ≤ b → b < n → Ab (T v b) (mT v)
  d : ∀ v b, v + 1 ≤ b → b < n → Ab (ndel T x v b) (eT v)
theorem nod_prn {n : Nat} {T : Nat → Nat → Rat} {x : Nat → Rat} (h : Nod n T x) {a m : Nat} (ha : a + m < n) : ∀ j, j ≤ m - 1 → Ab (prn x (x (a + m)) (a + 1) j) (pX (m - 1) j)
  | 0, _ => by show Ab 1 1; exact ⟨by decide +kernel, by decide +kernel⟩
  | j + 1, hj => by
    have i := nod_prn h ha j (by omega)
    refine i.mul ?_
    have h1 := h.lo (a + 1 + j) (m - 1 - j) (by omega)
    have h2 := h.hi (a + 1 + j) (m - 1 - j) (by omega)
    rw [show a + 1 + j + (m - 1 - j) = a + m from by omega] at h1 h2
    have : (0 : Rat) ≤ ((m - 1 - j : Nat) : Rat) := by exact_mod_cast Nat.zero_le _
    exact ⟨by grind, h2⟩
theorem nod_nerr {n : Nat} {T : Nat → Nat → Rat} {x : Nat → Rat} (h : Nod n T x) {a m : Nat} (ha : a + m < n) : ∀ t, t ≤ m → Ab (nerr T x (x (a + m)) a t) (rs (fun j => eT j * pX (m - 1) j) t)
  | 0, _ => by show Ab 0 0; exact ⟨by decide +kernel, by decide +kernel⟩
  | t + 1, ht => (nod_nerr h ha t (by omega)).add ((h.d t (a + t + 1) (by omega) (by omega)).mul (nod_prn h ha t (by omega)))
theorem nod_val {n : Nat} {T : Nat → Nat → Rat} {x : Nat → Rat} (h : Nod n T x) : ∀ m a, a + m < n → Ab (npol T x (x (a + m)) a (m + 1) - T 0 (a + m)) (eK m)
  | 0, a, ha => by
    show Ab (0 + T 0 (a + 0) * 1 - T 0 (a + 0)) 0
    exact ⟨by grind, by grind⟩
  | m + 1, a, ha => by
    rw [npol_node]
    have i := nod_val h m (a + 1) (by omega)
    rw [show a + 1 + m = a + (m + 1) from by omega] at i
    have e := nod_nerr h (a := a) (m := m + 1) ha (m + 1) (Nat.le_refl _)
    have := i.add e
    exact ⟨by have := this.1; show -(eK m + eB (m + 1)) ≤ _; unfold eB; grind, by have := this.2; show _ ≤ eK m + eB (m + 1); unfold eB; grind⟩
def hp (d x : Nat → Rat) (X : Rat) (i : Nat) : Nat → Rat
  | 0 => 0
  | m + 1 => hp d x X i m + d (i + m) * prn x X i m
theorem hp_head (d x : Nat → Rat) (X : Rat) (i : Nat) : ∀ m, hp d x X i (m + 1) = d i + (X - x i) * hp d x X (i + 1) m
  | 0 => by show 0 + d (i + 0) * 1 = d i + (X - x i) * 0; rw [Nat.add_zero]; grind
  | m + 1 => by
    show hp d x X i (m + 1) + d (i + (m + 1)) * prn x X i (m + 1) = d i + (X - x i) * (hp d x X (i + 1) m + d (i + 1 + m) * prn x X (i + 1) m)
    rw [hp_head d x X i m, prn_head, show i + (m + 1) = i + 1 + m from by omega]; grind
theorem npol_hp (T : Nat → Nat → Rat) (x : Nat → Rat) (X : Rat) : ∀ m, npol T x X 0 m = hp (fun t => T t t) x X 0 m
  | 0 => rfl
  | m + 1 => by
    show npol T x X 0 m + T m (0 + m) * prn x X 0 m = hp _ x X 0 m + T (0 + m) (0 + m) * prn x X 0 m
    rw [npol_hp T x X m, Nat.zero_add]
def hB (k : Nat) : Nat → Rat
  | 0 => 4 + eK k
  | i + 1 => (hB k i + mT i) / (((k - i : Nat) : Rat) / 2)
theorem nod_hB {n : Nat} {T : Nat → Nat → Rat} {x : Nat → Rat} (h : Nod n T x) {k : Nat} (hk : k < n) : ∀ i, i ≤ k → Ab (hp (fun t => T t t) x (x k) i (k - i + 1)) (hB k i)
  | 0, _ => by
    have v := nod_val h k 0 (by omega)
    rw [Nat.zero_add, npol_hp] at v
    have t := h.t 0 k (Nat.zero_le _) hk
    have := v.add t
    exact ⟨by have := this.1; show -(4 + eK k) ≤ _; have e : mT 0 = 4 := rfl; rw [Nat.sub_zero]; grind, by have := this.2; show _ ≤ 4 + eK k; have e : mT 0 = 4 := rfl; rw [Nat.sub_zero]; grind⟩
  | i + 1, hi => by
    have b := nod_hB h hk i (by omega)
    rw [hp_head] at b
    have t := h.t i i (Nat.le_refl _) (by omega)
    have l := h.lo i (k - i) (by omega)
    rw [show i + (k - i) = k from by omega] at l
    have c := b.sub t
    rw [show (fun t => T t t) i + (x k - x i) * hp (fun t => T t t) x (x k) (i + 1) (k - i) - T i i = hp (fun t => T t t) x (x k) (i + 1) (k - i) * (x k - x i) from by grind] at c
    rw [show k - (i + 1) + 1 = k - i from by omega]
    show Ab _ ((hB k i + mT i) / (((k - i : Nat) : Rat) / 2))
    have p : (0 : Rat) < ((k - i : Nat) : Rat) / 2 := by
      have : ((1 : Nat) : Rat) ≤ ((k - i : Nat) : Rat) := by exact_mod_cast (show 1 ≤ k - i by omega)
      have e : ((1 : Nat) : Rat) = 1 := by decide +kernel
      grind
    generalize ((k - i : Nat) : Rat) / 2 = w at *
    generalize hp (fun t => T t t) x (x k) (i + 1) (k - i) = z at *
    generalize hq : (hB k i + mT i) / w = q
    have e : q * w = hB k i + mT i := by rw [← hq]; exact div_mul_pos p
    rw [← e] at c
    have q0 : 0 ≤ q := Rat.le_of_mul_le_mul_right (c := w) (by have := c.nonneg; grind) p
    generalize x k - x i = y at *
    obtain ⟨c1, c2⟩ := c
    have y0 : 0 < y := by grind
    have qy : q * w ≤ q * y := Rat.mul_le_mul_of_nonneg_left l q0
    exact ⟨Rat.le_of_mul_le_mul_right (c := y) (by grind) y0, Rat.le_of_mul_le_mul_right (c := y) (by grind) y0⟩
noncomputable def ft (x y : List F) : Nat → Nat → F
  | 0, i => y.getD i none
  | v + 1, i => fop .quo .f32 (fop .sub .f32 (ft x y v i) (ft x y v (i - 1))) (fop .sub .f32 (x.getD i none) (x.getD (i - (v + 1)) none))
structure Pts (n : Nat) (x : List F) (p : Nat → Int) : Prop where
  n6 : n ≤ 6
  n0 : 0 < n
  l : x.length = n
  d : ∀ i, i < n → Dy .f32 2 (p i) (x.getD i none)
  b : ∀ i, i < n → (p i).natAbs ≤ 100
  s : ∀ i, i + 1 < n → p i + 2 ≤ p (i + 1) ∧ p (i + 1) ≤ p i + 6
theorem pts_far {n : Nat} {x : List F} {p : Nat → Int} (h : Pts n x p) : ∀ j i, i + j < n → 2 * (j : Int) ≤ p (i + j) - p i ∧ p (i + j) - p i ≤ 6 * (j : Int)
  | 0, i, _ => by rw [Nat.add_zero]; omega
  | j + 1, i, hi => by
    have a := pts_far h j i (by omega)
    have b := h.s (i + j) (by omega)
    rw [show i + (j + 1) = i + j + 1 from by omega]; omega
theorem pts_dx {n : Nat} {x : List F} {p : Nat → Int} (h : Pts n x p) {i j : Nat} (hi : i < n) (hj : j < n) : Dy .f32 2 (p i - p j) (fop .sub .f32 (x.getD i none) (x.getD j none)) := by
  have a := h.b i hi
  have b := h.b j hj
  have hd : (2 : Nat) ^ dgn .f32 = 16777216 := by decide
  exact (h.d i hi).sub (h.d j hj) (by omega)
theorem n_num (v : Nat) (hv : v < 5) : sT v + sT v / 8388608 + 1 / 100000000000000 ≤ mT (v + 1) * (((v + 1 : Nat) : Rat) / 2) ∧ h32 (2 * mT v) + sT v / 8388608 + 1 / 100000000000000 ≤ eT v ∧ 0 ≤ sT v ∧ sT v ≤ 100 ∧ 0 ≤ mT v ∧ mT v ≤ 43 ∧ 0 ≤ mT (v + 1) :=
  (show ∀ v, v < 5 → sT v + sT v / 8388608 + 1 / 100000000000000 ≤ mT (v + 1) * (((v + 1 : Nat) : Rat) / 2) ∧ h32 (2 * mT v) + sT v / 8388608 + 1 / 100000000000000 ≤ eT v ∧ 0 ≤ sT v ∧ sT v ≤ 100 ∧ 0 ≤ mT v ∧ mT v ≤ 43 ∧ 0 ≤ mT (v + 1) from by decide +kernel) v hv
theorem ft_step {a b dx : F} {v : Nat} {q : Int} (hv : v < 5) (ha : Fv a) (hb : Fv b) (ba : Ab (vl a) (mT v)) (bb : Ab (vl b) (mT v)) (hd : Dy .f32 2 q dx) (q1 : 2 * ((v + 1 : Nat) : Int) ≤ q) (q2 : q ≤ 6 * ((v + 1 : Nat) : Int)) :
    Fv (fop .quo .f32 (fop .sub .f32 a b) dx) ∧ Ab (vl (fop .quo .f32 (fop .sub .f32 a b) dx)) (mT (v + 1)) ∧ Ab (vl (fop .quo .f32 (fop .sub .f32 a b) dx) * ((q : Rat) / 4) - (vl a - vl b)) (eT v) := by
  obtain ⟨n1, n2, n3, n4, n5, n6, n7⟩ := n_num v hv
  obtain ⟨w1, w2⟩ := hd.fv
  have e4 : (2 : Rat) ^ 2 = 4 := by decide +kernel
  rw [e4] at w2
  have D : Ab (vl a - vl b) (2 * mT v) := (ba.sub bb).mono (by grind)
  obtain ⟨s1, s2⟩ := fv_subh ha hb D (by grind)
  have s3 : Ab (vl (fop .sub .f32 a b)) (sT v) := by
    have := s2.add D
    rw [show vl (fop .sub .f32 a b) - (vl a - vl b) + (vl a - vl b) = vl (fop .sub .f32 a b) from by grind] at this
    exact this.mono (by unfold sT; grind)
  generalize fop .sub .f32 a b = s at *
  have l1 : ((2 * ((v + 1 : Nat) : Int) : Int) : Rat) ≤ (q : Rat) := by exact_mod_cast q1
  have l2 : (q : Rat) ≤ ((6 * ((v + 1 : Nat) : Int) : Int) : Rat) := by exact_mod_cast q2
  have v1 : ((1 : Nat) : Rat) ≤ ((v + 1 : Nat) : Rat) := by exact_mod_cast (show 1 ≤ v + 1 by omega)
  have v2 : ((v + 1 : Nat) : Rat) ≤ ((5 : Nat) : Rat) := by exact_mod_cast (show v + 1 ≤ 5 by omega)
  have c1 : ((1 : Nat) : Rat) = 1 := by decide +kernel
  have c5 : ((5 : Nat) : Rat) = 5 := by decide +kernel
  rw [c1] at v1
  rw [c5] at v2
  rw [Rat.intCast_mul, Rat.intCast_natCast] at l1 l2
  have c2 : ((2 : Int) : Rat) = 2 := by decide +kernel
  have c6 : ((6 : Int) : Rat) = 6 := by decide +kernel
  rw [c2] at l1
  rw [c6] at l2
  generalize ((v + 1 : Nat) : Rat) = vv at *
  generalize hw : (q : Rat) / 4 = w at *
  have wl : vv / 2 ≤ w := by grind
  have wh : w ≤ 8 := by grind
  have w0 : 0 < w := by grind
  have es : vl s / w * w = vl s := div_mul_pos w0
  have eS : sT v / w * w = sT v := div_mul_pos w0
  have qb : Ab (vl s / w) (sT v / w) := ⟨Rat.le_of_mul_le_mul_right (c := w) (by have := s3.1; grind) w0, Rat.le_of_mul_le_mul_right (c := w) (by have := s3.2; grind) w0⟩
  have qM : sT v / w ≤ 1000000000 := Rat.le_of_mul_le_mul_right (c := w) (by rw [eS]; grind) w0
  obtain ⟨t1, t2⟩ := fv_quo s1 w1 (by rw [w2]; grind) (by rw [w2]; exact qb) qM
  rw [w2] at t2
  generalize vl (fop .quo .f32 s dx) = t at *
  have m := t2.mul (show Ab w w from ⟨by grind, by grind⟩)
  rw [show (t - vl s / w) * w = t * w - vl s from by grind] at m
  have m2 : Ab (t * w - vl s) (sT v / 8388608 + 1 / 100000000000000) := m.mono (by unfold e32; grind)
  refine ⟨t1, ?_, ?_⟩
  · have r := m2.add s3
    rw [show t * w - vl s + vl s = t * w from by grind] at r
    have k : mT (v + 1) * (vv / 2) ≤ mT (v + 1) * w := Rat.mul_le_mul_of_nonneg_left wl n7
    obtain ⟨r1, r2⟩ := r
    exact ⟨Rat.le_of_mul_le_mul_right (c := w) (by grind) w0, Rat.le_of_mul_le_mul_right (c := w) (by grind) w0⟩
  · have r := m2.add s2
    rw [show t * w - vl s + (vl s - (vl a - vl b)) = t * w - (vl a - vl b) from by grind] at r
    exact r.mono (by grind)
theorem ft_ok {n : Nat} {x y : List F} {p : Nat → Int} (h : Pts n x p) (ly : y.length = n) (qy : ∀ z ∈ y, Qd z) : ∀ v b, v ≤ b → b < n → Fv (ft x y v b) ∧ Ab (vl (ft x y v b)) (mT v)
  | 0, b, _, hb => qd_fv (qy _ (getD_mem (by omega)))
  | v + 1, b, hv, hb => by
    have n6 := h.n6
    obtain ⟨a1, a2⟩ := ft_ok h ly qy v b (by omega) hb
    obtain ⟨b1, b2⟩ := ft_ok h ly qy v (b - 1) (by omega) (by omega)
    have f := pts_far h (v + 1) (b - (v + 1)) (by omega)
    rw [show b - (v + 1) + (v + 1) = b from by omega] at f
    have r := ft_step (by omega) a1 b1 a2 b2 (pts_dx h hb (show b - (v + 1) < n by omega)) f.1 f.2
    exact ⟨r.1, r.2.1⟩
theorem nod_ok {n : Nat} {x y : List F} {p : Nat → Int} (h : Pts n x p) (ly : y.length = n) (qy : ∀ z ∈ y, Qd z) : Nod n (fun v b => vl (ft x y v b)) (fun i => (p i : Rat) / 4) := by
  have c2 : ((2 : Int) : Rat) = 2 := by decide +kernel
  have c6 : ((6 : Int) : Rat) = 6 := by decide +kernel
  refine ⟨h.n6, fun i j hi => ?_, fun i j hi => ?_, fun v b hv hb => (ft_ok h ly qy v b hv hb).2, fun v b hv hb => ?_⟩
  · have f := (pts_far h j i hi).1
    have l : ((2 * (j : Int) : Int) : Rat) ≤ ((p (i + j) - p i : Int) : Rat) := by exact_mod_cast f
    rw [Rat.intCast_mul, Rat.intCast_sub, Rat.intCast_natCast, c2] at l
    show (j : Rat) / 2 ≤ (p (i + j) : Rat) / 4 - (p i : Rat) / 4
    grind
  · have f := (pts_far h j i hi).2
    have l : ((p (i + j) - p i : Int) : Rat) ≤ ((6 * (j : Int) : Int) : Rat) := by exact_mod_cast f
    rw [Rat.intCast_mul, Rat.intCast_sub, Rat.intCast_natCast, c6] at l
    show (p (i + j) : Rat) / 4 - (p i : Rat) / 4 ≤ 3 / 2 * (j : Rat)
    grind
  · have n6 := h.n6
    obtain ⟨a1, a2⟩ := ft_ok h ly qy v b (by omega) hb
    obtain ⟨b1, b2⟩ := ft_ok h ly qy v (b - 1) (by omega) (by omega)
    have f := pts_far h (v + 1) (b - (v + 1)) (by omega)
    rw [show b - (v + 1) + (v + 1) = b from by omega] at f
    have r := (ft_step (by omega) a1 b1 a2 b2 (pts_dx h hb (show b - (v + 1) < n by omega)) f.1 f.2).2.2
    rw [Rat.intCast_sub] at r
    show Ab (vl (ft x y (v + 1) b) * ((p b : Rat) / 4 - (p (b - (v + 1)) : Rat) / 4) - (vl (ft x y v b) - vl (ft x y v (b - 1)))) (eT v)
    rw [show (p b : Rat) / 4 - (p (b - (v + 1)) : Rat) / 4 = ((p b : Rat) - (p (b - (v + 1)) : Rat)) / 4 from by grind]
    exact r
theorem loop_go {S ρ ε : Type} {step : S → Option (LR S ε ρ)} (mk : Nat → S) {e : ε} : ∀ (m i : Nat), (∀ j, i ≤ j → j < i + m → step (mk j) = some (.next (mk (j + 1)))) → step (mk (i + m)) = some (.out e) → loopM step (mk i) = some (.inl e)
  | 0, i, _, ho => loopM_out (by rw [Nat.add_zero] at ho; exact ho)
  | m + 1, i, hs, ho => by
    rw [loopM_next (hs i (Nat.le_refl _) (by omega))]
    exact loop_go mk m (i + 1) (fun j h1 h2 => hs j (by omega) (by omega)) (by rw [show i + 1 + m = i + (m + 1) from by omega]; exact ho)
theorem contains_no {l : List F} {e : F} (hl : l.length ≤ 1000) (h : ∀ y ∈ l, feq .f32 e y = false) : x_slices_Contains_float32_float32 l e = some false := by
  unfold x_slices_Contains_float32_float32 x_slices_Index_float32_float32
  obtain ⟨r, h1, h2⟩ := loop_find (l := l) (p := fun x => feq .f32 e x) (step := x_slices_Index_float32_float32_s1 l e) (by
    intro v x h0 hv hx
    show x_slices_Index_float32_float32_b1 _ _ v = _
    unfold x_slices_Index_float32_float32_b1
    rw [at?_of h0 hx, wrap_succ h0 hv (by omega), show decide (v < (l.length : Int)) = true from decide_eq_true hv, bsel_true, obind_eq]
    cases feq .f32 e x <;> rfl) (by
    show x_slices_Index_float32_float32_b1 _ _ _ = _
    unfold x_slices_Index_float32_float32_b1
    rw [dnlt, bsel_false])
  have a : l.any (fun x => feq .f32 e x) = false := List.any_eq_false.2 fun y hy => by rw [h y hy]; decide
  rw [h1, a]
  rfl
theorem isList_fv {l : List F} (h0 : 0 < l.length) (h1 : l.length ≤ 32) (f : ∀ x ∈ l, Fv x) : i_isList l 32 = some true := by
  unfold i_isList i_length_float32
  rw [obind_eq, i_inRange_eq, decide_eq_true (by omega), decide_eq_true (by omega), Bool.and_self, obind_eq, bsel_true, i_areFinite_eq (fun x hx => (f x hx).fok) (by omega), List.all_eq_true.2 fun x hx => (f x hx).fin, obind_eq]
theorem pts_fv {n : Nat} {x : List F} {p : Nat → Int} (h : Pts n x p) : ∀ z ∈ x, Fv z := fun z hz => by
  obtain ⟨i, hi, rfl⟩ := mem_getD hz
  exact (h.d i (by rw [← h.l]; exact hi)).fv.1
theorem div_once {n : Nat} {x : List F} {p : Nat → Int} (h : Pts n x p) : loopM (i_DividedOf_s1 x) 0 = some (.inl ()) := by
  have n6 := h.n6
  have lx := h.l
  refine loop_go (step := i_DividedOf_s1 x) (fun j : Nat => (j : Int)) n 0 (fun j _ hj => ?_) ?_
  · show i_DividedOf_b1 x (j : Int) = _
    unfold i_DividedOf_b1
    have hj : j < n := by omega
    rw [decide_eq_true (by omega), bsel_true, at?_n none (by omega), obind_eq, show sub? x 0 (j : Int) = _ from sub?_n (a := 0) (Nat.zero_le _) (by omega), obind_eq, contains_no (by simp; omega) fun y hy => ?_, obind_eq, bsel_false, wsucc (by omega), olet_eq]
    obtain ⟨i, hi, rfl⟩ := mem_getD hy
    have hi : i < j := by simp at hi; omega
    have e : ((x.take j).drop 0).getD i none = x.getD i none := by
      rw [List.drop_zero, List.getD_eq_getElem?_getD, List.getD_eq_getElem?_getD, List.getElem?_take_of_lt hi]
    rw [e, (h.d j hj).feq (h.d i (by omega))]
    have f := (pts_far h (j - i) i (by omega)).1
    rw [show i + (j - i) = j from by omega] at f
    exact decide_eq_false (by omega)
  · show i_DividedOf_b1 x ((0 + n : Nat) : Int) = _
    unfold i_DividedOf_b1
    rw [decide_eq_false (by omega), bsel_false]
theorem div_in {n : Nat} {x y : List F} {v : Nat} (lx : x.length = n) (n6 : n ≤ 6) : ∀ (m : Nat) (L : List F), v + m < n → L.length = n → (∀ j, j < n → L.getD j none = if v + m < j then ft x y (min (v + 1) j) j else ft x y (min v j) j) → ∃ L', L'.length = n ∧ (∀ j, j < n → L'.getD j none = ft x y (min (v + 1) j) j) ∧ loopM (i_DividedOf_s3 x ((v + 1 : Nat) : Int)) (L, ((v + m : Nat) : Int)) = some (.inl L')
  | 0, L, hv, hL, g => by
    refine ⟨L, hL, fun j hj => ?_, loopM_out ?_⟩
    · rw [g j hj]
      by_cases e : v + 0 < j
      · rw [if_pos e]
      · rw [if_neg e, show min v j = min (v + 1) j from by omega]
    · show i_DividedOf_b3 x _ L _ = _
      unfold i_DividedOf_b3
      rw [decide_eq_false (by omega), bsel_false]
  | m + 1, L, hv, hL, g => by
    have st : i_DividedOf_s3 x ((v + 1 : Nat) : Int) (L, ((v + (m + 1) : Nat) : Int)) = some (.next (L.set (v + (m + 1)) (ft x y (v + 1) (v + (m + 1))), ((v + m : Nat) : Int))) := by
      show i_DividedOf_b3 x _ L _ = _
      unfold i_DividedOf_b3
      have g1 := g (v + (m + 1)) hv
      have g2 := g (v + m) (by omega)
      rw [if_neg (by omega), show min v (v + (m + 1)) = v from by omega] at g1
      rw [if_neg (by omega), show min v (v + m) = v from by omega] at g2
      rw [decide_eq_true (by omega), bsel_true, at?_n none (by omega), obind_eq, wi64 (by omega) (by omega), olet_eq, show ((v + (m + 1) : Nat) : Int) - 1 = ((v + m : Nat) : Int) from by omega, at?_n none (by omega), obind_eq, olet_eq, at?_n none (by omega), obind_eq, wi64 (by omega) (by omega), olet_eq,
        show ((v + (m + 1) : Nat) : Int) - ((v + 1 : Nat) : Int) = ((v + (m + 1) - (v + 1) : Nat) : Int) from by omega, at?_n none (by omega), obind_eq, olet_eq, olet_eq, setAt?_n _ (by omega), obind_eq, olet_eq, g1, g2]
      rfl
    have r := div_in (y := y) (v := v) lx n6 m (L.set (v + (m + 1)) (ft x y (v + 1) (v + (m + 1)))) (by omega) (by simp [hL]) (fun j hj => by
      rw [List.getD_eq_getElem?_getD]
      by_cases e : v + (m + 1) = j
      · subst e
        rw [List.getElem?_set_self (by omega), if_pos (by omega), show min (v + 1) (v + (m + 1)) = v + 1 from by omega]; rfl
      · rw [List.getElem?_set_ne e, ← List.getD_eq_getElem?_getD, g j hj]
        by_cases e2 : v + (m + 1) < j
        · rw [if_pos e2, if_pos (by omega)]
        · rw [if_neg e2, if_neg (by omega)])
    obtain ⟨L', r1, r2, r3⟩ := r
    exact ⟨L', r1, r2, by rw [loopM_next st, r3]⟩
theorem div_out {n : Nat} {x y r8 : List F} (lx : x.length = n) (n6 : n ≤ 6) (l8 : r8.length = n) : ∀ (m v : Nat) (L : List F), v + 1 + m = n → L.length = n → (∀ j, j < n → L.getD j none = ft x y (min v j) j) → ∃ L', L'.length = n ∧ (∀ j, j < n → L'.getD j none = ft x y j j) ∧ loopM (i_DividedOf_s4 x r8) (L, ((v + 1 : Nat) : Int)) = some (.inl L')
  | 0, v, L, hv, hL, g => by
    refine ⟨L, hL, fun j hj => by rw [g j hj, show min v j = j from by omega], loopM_out ?_⟩
    show i_DividedOf_b4 x r8 L _ = _
    unfold i_DividedOf_b4
    rw [decide_eq_false (by omega), bsel_false]
  | m + 1, v, L, hv, hL, g => by
    obtain ⟨L1, h1, h2, h3⟩ := div_in (y := y) (v := v) lx n6 (n - 1 - v) L (by omega) hL (fun j hj => by rw [if_neg (by omega)]; exact g j hj)
    rw [show v + (n - 1 - v) = n - 1 from by omega] at h3
    obtain ⟨L', r1, r2, r3⟩ := div_out (y := y) lx n6 l8 m (v + 1) L1 (by omega) h1 h2
    refine ⟨L', r1, r2, ?_⟩
    rw [loopM_next (s' := (L1, ((v + 1 + 1 : Nat) : Int))), r3]
    show i_DividedOf_b4 x r8 L _ = _
    unfold i_DividedOf_b4 i_DividedOf_k3
    rw [decide_eq_true (by omega), bsel_true, wi64 (by omega) (by omega), olet_eq, show ((r8.length : Nat) : Int) - 1 = ((n - 1 : Nat) : Int) from by omega, h3, obind_eq, osum_inl, wsucc (by omega), olet_eq]
theorem divided_fv {n : Nat} {x y : List F} {p : Nat → Int} (h : Pts n x p) (ly : y.length = n) (qy : ∀ z ∈ y, Qd z) : ∃ d : List F, d.length = n ∧ (∀ j, j < n → d.getD j none = ft x y j j) ∧ i_DividedOf x y = some (true, d) := by
  have n6 := h.n6
  have n0 := h.n0
  have lx := h.l
  obtain ⟨d, d1, d2, d3⟩ := div_out (x := x) (y := y) lx n6 ly (n - 1) 0 y (by omega) ly (fun j hj => by rw [Nat.zero_min]; rfl)
  have fd : ∀ z ∈ d, Fv z := fun z hz => by
    obtain ⟨i, hi, rfl⟩ := mem_getD hz
    rw [d2 i (by omega)]
    exact (ft_ok h ly qy i i (Nat.le_refl _) (by omega)).1
  refine ⟨d, d1, d2, ?_⟩
  unfold i_DividedOf
  rw [isList_fv (by omega) (by omega) (pts_fv h), obind_eq, bsel_true, isList_fv (by omega) (by omega) fun z hz => (qd_fv (qy z hz)).1, obind_eq, bsel_true, decide_eq_true (by omega), Bool.not_true, bsel_false, div_once h, obind_eq, osum_inl]
  unfold i_DividedOf_k1 i_DividedOf_k4
  have d3 : loopM (i_DividedOf_s4 x y) (y, 1) = _ := d3
  have af : i_allFinite_0o d = some (Sum.inl (true, d)) := by
    unfold i_allFinite_0o
    rw [i_areFinite_eq (fun x hx => (fd x hx).fok) (by omega), List.all_eq_true.2 fun x hx => (fd x hx).fin, obind_eq, bsel_true]
  rw [x_slices_Clone_float32_float32_eq (by omega), obind_eq, d3, obind_eq, osum_inl, af, obind_eq, osum_inl, obind2_eq, decide_eq_true (by omega), need_true]
def eN (k : Nat) : Nat → Rat
  | 0 => if k = 5 then 0 else 3 / 1000000
  | c + 1 =>
    let X := 3 / 2 * ((c + 1 : Nat) : Rat)
    let P := if c = 0 then (eN k 0 + mT k) * (3 / 2) else eN k c * X + (hB k (k - (c + 1)) + mT (k - (c + 1)))
    eN k c * X + h32 P + h32 (hB k (k - (c + 1)) + (eN k c * X + h32 P))
def pN (k c : Nat) : Rat := if c = 0 then (eN k 0 + mT k) * (3 / 2) else eN k c * (3 / 2 * ((c + 1 : Nat) : Rat)) + (hB k (k - (c + 1)) + mT (k - (c + 1)))
theorem eN_zero (k : Nat) : eN k 0 = if k = 5 then 0 else 3 / 1000000 := by unfold eN; rfl
theorem eN_succ (k c : Nat) : eN k (c + 1) = eN k c * (3 / 2 * ((c + 1 : Nat) : Rat)) + h32 (pN k c) + h32 (hB k (k - (c + 1)) + (eN k c * (3 / 2 * ((c + 1 : Nat) : Rat)) + h32 (pN k c))) := by
  rw [eN]; rfl
theorem hp_one (d x : Nat → Rat) (X : Rat) (i : Nat) : hp d x X i (0 + 1) = d i := by
  show 0 + d (i + 0) * 1 = d i
  rw [Nat.add_zero]; grind
theorem eN_num : ∀ k, k < 6 → (eN k k + eK k ≤ 998 / 100000) ∧ ∀ c, c < k → pN k c ≤ 1000 ∧ hB k (k - (c + 1)) + (eN k c * (3 / 2 * ((c + 1 : Nat) : Rat)) + h32 (pN k c)) ≤ 1000 := by decide +kernel
def cN : Nat → Rat | 0 => 43 | 1 => 400 | 2 => 4000 | 3 => 40000 | 4 => 400000 | _ => 4000000
theorem cN_num : ∀ t, t < 5 → 8 * cN t + 1 + 43 + 1 ≤ cN (t + 1) ∧ 0 ≤ cN t ∧ 8 * cN t ≤ 4000000 ∧ h32 (8 * cN t) ≤ 1 ∧ h32 (8 * cN t + 1 + 43) ≤ 1 := by decide +kernel
theorem mT_num : ∀ i, i < 6 → mT i ≤ 43 ∧ 0 ≤ mT i := by decide +kernel
theorem new_last {k i : Nat} {y z d w : F} {r : Int} {H : Rat} (hk : k < 6) (hi : i < k) (hy : Fv y) (hd : Fv d) (hw : Dy .f32 2 r w) (bd : Ab (vl d) (mT i)) (r1 : 2 * ((k - i : Nat) : Int) ≤ r) (r2 : r ≤ 6 * ((k - i : Nat) : Int))
    (hu : Ab (vl y - H) (eN k (k - i - 1))) (hH : k - i - 1 = 0 → Ab H (mT k)) (hB' : Ab (vl d + (r : Rat) / 4 * H) (hB k i)) :
    Fv (fop .add .f32 (fop .mul .f32 y w) d) ∧ Ab (vl (fop .add .f32 (fop .mul .f32 y w) d) - (vl d + (r : Rat) / 4 * H)) (eN k (k - i)) := by
  obtain ⟨w1, w2⟩ := hw.fv
  have e4 : (2 : Rat) ^ 2 = 4 := by decide +kernel
  rw [e4] at w2
  obtain ⟨c, hc⟩ : ∃ c, k - i = c + 1 := ⟨k - i - 1, by omega⟩
  have ei : i = k - (c + 1) := by omega
  rw [hc] at hu r1 r2 hH ⊢
  rw [Nat.add_sub_cancel] at hu hH
  obtain ⟨_, n2⟩ := eN_num k hk
  obtain ⟨q1, q2⟩ := n2 c (by omega)
  have l1 : ((2 * ((c + 1 : Nat) : Int) : Int) : Rat) ≤ (r : Rat) := by exact_mod_cast r1
  have l2 : (r : Rat) ≤ ((6 * ((c + 1 : Nat) : Int) : Int) : Rat) := by exact_mod_cast r2
  rw [Rat.intCast_mul, Rat.intCast_natCast] at l1 l2
  have c2 : ((2 : Int) : Rat) = 2 := by decide +kernel
  have c6 : ((6 : Int) : Rat) = 6 := by decide +kernel
  rw [c2] at l1
  rw [c6] at l2
  have v1 : ((1 : Nat) : Rat) ≤ ((c + 1 : Nat) : Rat) := by exact_mod_cast (show 1 ≤ c + 1 by omega)
  have c1 : ((1 : Nat) : Rat) = 1 := by decide +kernel
  rw [c1] at v1
  have bw : Ab ((r : Rat) / 4) (3 / 2 * ((c + 1 : Nat) : Rat)) := ⟨by grind, by grind⟩
  have m0 := hu.mul bw
  generalize hW : (r : Rat) / 4 = W at *
  have hP : Ab (vl y * W) (pN k c) := by
    unfold pN
    by_cases e : c = 0
    · subst e
      rw [if_pos rfl]
      have a := hu.add (hH rfl)
      rw [show vl y - H + H = vl y from by grind] at a
      have e1 : ((0 + 1 : Nat) : Rat) = 1 := by decide +kernel
      rw [e1] at bw
      have := a.mul bw
      exact this.mono (by grind)
    · rw [if_neg e]
      have a := m0.add (hB'.sub bd)
      rw [show (vl y - H) * W + (vl d + W * H - vl d) = vl y * W from by grind, ei] at a
      exact a
  obtain ⟨a1, a2⟩ := fv_mulh hy w1 (by rw [w2]; exact hP) (by grind)
  rw [w2] at a2
  have s : Ab (vl (fop .mul .f32 y w) + vl d - (vl d + W * H)) (eN k c * (3 / 2 * ((c + 1 : Nat) : Rat)) + h32 (pN k c)) := by
    have := m0.add a2
    rw [show (vl y - H) * W + (vl (fop .mul .f32 y w) - vl y * W) = vl (fop .mul .f32 y w) + vl d - (vl d + W * H) from by grind] at this
    exact this
  have s2 : Ab (vl (fop .mul .f32 y w) + vl d) (hB k (k - (c + 1)) + (eN k c * (3 / 2 * ((c + 1 : Nat) : Rat)) + h32 (pN k c))) := by
    have := s.add hB'
    rw [show vl (fop .mul .f32 y w) + vl d - (vl d + W * H) + (vl d + W * H) = vl (fop .mul .f32 y w) + vl d from by grind, ei] at this
    exact this.mono (by grind)
  obtain ⟨b1, b2⟩ := fv_addh a1 hd s2 (by grind)
  refine ⟨b1, ?_⟩
  have := b2.add s
  rw [show vl (fop .add .f32 (fop .mul .f32 y w) d) - (vl (fop .mul .f32 y w) + vl d) + (vl (fop .mul .f32 y w) + vl d - (vl d + W * H)) = vl (fop .add .f32 (fop .mul .f32 y w) d) - (vl d + W * H) from by grind] at this
  exact this.mono (by rw [eN_succ]; grind)
theorem new_big {t : Nat} {y d w : F} {r : Int} (ht : t < 5) (hy : Fv y) (hd : Fv d) (hw : Dy .f32 2 r w) (bd : Ab (vl d) 43) (hr : r.natAbs ≤ 30) (hu : Ab (vl y) (cN t)) :
    Fv (fop .add .f32 (fop .mul .f32 y w) d) ∧ Ab (vl (fop .add .f32 (fop .mul .f32 y w) d)) (cN (t + 1)) ∧ (r = 0 → Ab (vl (fop .add .f32 (fop .mul .f32 y w) d) - vl d) (3 / 1000000)) := by
  obtain ⟨w1, w2⟩ := hw.fv
  have e4 : (2 : Rat) ^ 2 = 4 := by decide +kernel
  rw [e4] at w2
  obtain ⟨q1, q0, q2, q3, q4⟩ := cN_num t ht
  have l1 : ((-30 : Int) : Rat) ≤ (r : Rat) := by exact_mod_cast (show (-30 : Int) ≤ r by omega)
  have l2 : (r : Rat) ≤ ((30 : Int) : Rat) := by exact_mod_cast (show r ≤ (30 : Int) by omega)
  have c1 : ((-30 : Int) : Rat) = -30 := by decide +kernel
  have c2 : ((30 : Int) : Rat) = 30 := by decide +kernel
  rw [c1] at l1
  rw [c2] at l2
  have P : Ab (vl y * vl w) (8 * cN t) := (hu.mul (show Ab (vl w) 8 from ⟨by rw [w2]; grind, by rw [w2]; grind⟩)).mono (by grind)
  obtain ⟨a1, a2⟩ := fv_mulh hy w1 P (by grind)
  have s : Ab (vl (fop .mul .f32 y w) + vl d) (8 * cN t + 1 + 43) := by
    have := (a2.add P).add bd
    rw [show vl (fop .mul .f32 y w) - vl y * vl w + vl y * vl w + vl d = vl (fop .mul .f32 y w) + vl d from by grind] at this
    exact this.mono (by grind)
  obtain ⟨b1, b2⟩ := fv_addh a1 hd s (by grind)
  refine ⟨b1, ?_, fun h0 => ?_⟩
  · have := b2.add s
    rw [show vl (fop .add .f32 (fop .mul .f32 y w) d) - (vl (fop .mul .f32 y w) + vl d) + (vl (fop .mul .f32 y w) + vl d) = vl (fop .add .f32 (fop .mul .f32 y w) d) from by grind] at this
    exact this.mono (by grind)
  · have z : vl w = 0 := by rw [w2, h0]; decide +kernel
    have P0 : Ab (vl y * vl w) 0 := by rw [z]; exact ⟨by grind, by grind⟩
    obtain ⟨_, a2⟩ := fv_mulh hy w1 P0 (by decide +kernel)
    rw [z] at a2
    have h0 : h32 0 = 1 / 1000000000000000 := by decide +kernel
    rw [h0] at a2
    have s : Ab (vl (fop .mul .f32 y w) + vl d) 44 := by
      have := a2.add bd
      rw [show vl (fop .mul .f32 y w) - vl y * 0 + vl d = vl (fop .mul .f32 y w) + vl d from by grind] at this
      exact this.mono (by grind)
    obtain ⟨_, b2⟩ := fv_addh a1 hd s (by decide +kernel)
    have := b2.add a2
    rw [show vl (fop .add .f32 (fop .mul .f32 y w) d) - (vl (fop .mul .f32 y w) + vl d) + (vl (fop .mul .f32 y w) - vl y * 0) = vl (fop .add .f32 (fop .mul .f32 y w) d) - vl d from by grind] at this
    exact this.mono (by decide +kernel)
theorem new_step {n k i : Nat} {x d : List F} {p : Nat → Int} (h : Pts n x p) (ld : d.length = n) (hk : k < n) (hi : i < n) (y : F) : i_NewtonAt_s1 x d (x.getD k none) (y, (i : Int)) = some (.next (fop .add .f32 (fop .mul .f32 y (fop .sub .f32 (x.getD k none) (x.getD i none))) (d.getD i none), (i : Int) - 1)) := by
  have n6 := h.n6
  have lx := h.l
  show i_NewtonAt_b1 x d _ y (i : Int) = _
  unfold i_NewtonAt_b1
  rw [decide_eq_true (by omega), bsel_true, at?_n none (by omega), obind_eq, olet_eq, i_mul_eq, obind_eq, at?_n none (by omega), obind_eq, olet_eq, wi64 (by omega) (by omega), olet_eq]
theorem new_in {n k : Nat} {x y d : List F} {p : Nat → Int} (h : Pts n x p) (ly : y.length = n) (qy : ∀ z ∈ y, Qd z) (ld : d.length = n) (hd : ∀ j, j < n → d.getD j none = ft x y j j) (hk : k < n) : ∀ (i : Nat) (u : F), i ≤ k → Fv u → Ab (vl u - hp (fun t => vl (ft x y t t)) (fun i => (p i : Rat) / 4) ((p k : Rat) / 4) i (k - i + 1)) (eN k (k - i)) →
    ∃ z, Fv z ∧ Ab (vl z - hp (fun t => vl (ft x y t t)) (fun i => (p i : Rat) / 4) ((p k : Rat) / 4) 0 (k + 1)) (eN k k) ∧ loopM (i_NewtonAt_s1 x d (x.getD k none)) (u, (i : Int) - 1) = some (.inl z)
  | 0, u, _, fu, hu => by
    refine ⟨u, fu, hu, loopM_out ?_⟩
    show i_NewtonAt_b1 x d _ u (((0 : Nat) : Int) - 1) = _
    unfold i_NewtonAt_b1
    rw [decide_eq_false (by omega), bsel_false]
  | i + 1, u, hi, fu, hu => by
    have n6 := h.n6
    have N := nod_ok h ly qy
    have hin : i < n := by omega
    obtain ⟨f1, f2⟩ := ft_ok h ly qy i i (Nat.le_refl _) hin
    have far := pts_far h (k - i) i (by omega)
    rw [show i + (k - i) = k from by omega] at far
    have B := nod_hB N hk i (by omega)
    rw [hp_head] at B
    have st := new_step h ld hk hin u
    rw [hd i hin] at st
    have g := new_last (k := k) (i := i) (z := u) (by omega) (by omega) fu f1 (pts_dx h hk hin) f2 far.1 far.2 (H := hp (fun t => vl (ft x y t t)) (fun i => (p i : Rat) / 4) ((p k : Rat) / 4) (i + 1) (k - i))
      (by rw [show k - (i + 1) + 1 = k - i from by omega] at hu; rw [show k - i - 1 = k - (i + 1) from by omega]; exact hu) (fun e => by
        have e : i + 1 = k := by omega
        rw [show k - i = 0 + 1 from by omega, e]
        have := (ft_ok h ly qy k k (Nat.le_refl _) hk).2
        show Ab (0 + vl (ft x y k k) * 1) (mT k)
        rw [show 0 + vl (ft x y k k) * 1 = vl (ft x y k k) from by grind]; exact this)
      (by rw [Rat.intCast_sub, show ((p k : Rat) - (p i : Rat)) / 4 = (p k : Rat) / 4 - (p i : Rat) / 4 from by grind]; exact B)
    rw [Rat.intCast_sub, show ((p k : Rat) - (p i : Rat)) / 4 = (p k : Rat) / 4 - (p i : Rat) / 4 from by grind] at g
    obtain ⟨z, z1, z2, z3⟩ := new_in h ly qy ld hd hk i _ (by omega) g.1 (by rw [hp_head]; exact g.2)
    refine ⟨z, z1, z2, ?_⟩
    rw [show (((i + 1 : Nat) : Int) - 1) = (i : Int) from by omega, loopM_next st, z3]
theorem new_out {n k : Nat} {x y d : List F} {p : Nat → Int} (h : Pts n x p) (ly : y.length = n) (qy : ∀ z ∈ y, Qd z) (ld : d.length = n) (hd : ∀ j, j < n → d.getD j none = ft x y j j) (hk : k + 1 < n) : ∀ (m : Nat) (u : F), k + m + 1 < n → Fv u → Ab (vl u) (cN (n - 1 - (k + m + 1))) →
    ∃ z, Fv z ∧ Ab (vl z - hp (fun t => vl (ft x y t t)) (fun i => (p i : Rat) / 4) ((p k : Rat) / 4) 0 (k + 1)) (eN k k) ∧ loopM (i_NewtonAt_s1 x d (x.getD k none)) (u, ((k + m : Nat) : Int)) = some (.inl z)
  | 0, u, _, fu, hu => by
    have n6 := h.n6
    obtain ⟨f1, f2⟩ := ft_ok h ly qy k k (Nat.le_refl _) (by omega)
    have st := new_step h ld (show k < n by omega) (show k < n by omega) u
    rw [hd k (by omega)] at st
    have g := new_big (t := n - 1 - (k + 1)) (by omega) fu f1 (pts_dx h (show k < n by omega) (show k < n by omega)) (f2.mono (mT_num k (by omega)).1) (by omega) hu
    have g3 := g.2.2 (by omega)
    obtain ⟨z, z1, z2, z3⟩ := new_in h ly qy ld hd (show k < n by omega) k _ (Nat.le_refl _) g.1 (by
      rw [Nat.sub_self, eN_zero, if_neg (by omega), hp_one]; exact g3)
    exact ⟨z, z1, z2, by rw [Nat.add_zero, loopM_next st, z3]⟩
  | m + 1, u, hm, fu, hu => by
    have n6 := h.n6
    obtain ⟨f1, f2⟩ := ft_ok h ly qy (k + (m + 1)) (k + (m + 1)) (Nat.le_refl _) (by omega)
    have st := new_step h ld (show k < n by omega) (show k + (m + 1) < n by omega) u
    rw [hd (k + (m + 1)) (by omega)] at st
    have far := pts_far h (m + 1) k (by omega)
    have g := new_big (t := n - 1 - (k + (m + 1) + 1)) (by omega) fu f1 (pts_dx h (show k < n by omega) (show k + (m + 1) < n by omega)) (f2.mono (mT_num _ (by omega)).1) (by omega) hu
    obtain ⟨z, z1, z2, z3⟩ := new_out h ly qy ld hd hk m _ (by omega) g.1 (by rw [show n - 1 - (k + m + 1) = n - 1 - (k + (m + 1) + 1) + 1 from by omega]; exact g.2.1)
    exact ⟨z, z1, z2, by rw [loopM_next st, show ((k + (m + 1) : Nat) : Int) - 1 = ((k + m : Nat) : Int) from by omega, z3]⟩
theorem newton_fv {n k : Nat} {x y d : List F} {p : Nat → Int} (h : Pts n x p) (ly : y.length = n) (qy : ∀ z ∈ y, Qd z) (ld : d.length = n) (hd : ∀ j, j < n → d.getD j none = ft x y j j) (hk : k < n) :
    ∃ z, Fv z ∧ Ab (vl z - vl (y.getD k none)) (998 / 100000) ∧ i_NewtonAt x d (x.getD k none) = some (z, true) := by
  have n6 := h.n6
  have n0 := h.n0
  have lx := h.l
  have fd : ∀ z ∈ d, Fv z := fun z hz => by
    obtain ⟨i, hi, rfl⟩ := mem_getD hz
    rw [hd i (by omega)]
    exact (ft_ok h ly qy i i (Nat.le_refl _) (by omega)).1
  obtain ⟨f1, f2⟩ := ft_ok h ly qy (n - 1) (n - 1) (Nat.le_refl _) (by omega)
  have main : ∃ z, Fv z ∧ Ab (vl z - hp (fun t => vl (ft x y t t)) (fun i => (p i : Rat) / 4) ((p k : Rat) / 4) 0 (k + 1)) (eN k k) ∧ loopM (i_NewtonAt_s1 x d (x.getD k none)) (ft x y (n - 1) (n - 1), (n : Int) - 2) = some (.inl z) := by
    by_cases e : k = n - 1
    · obtain ⟨z, z1, z2, z3⟩ := new_in h ly qy ld hd hk k _ (Nat.le_refl _) f1 (by
        rw [Nat.sub_self, ← e, eN_zero, hp_one, show vl (ft x y k k) - vl (ft x y k k) = 0 from by grind]
        split <;> exact ⟨by decide +kernel, by decide +kernel⟩)
      exact ⟨z, z1, z2, by rw [show (n : Int) - 2 = (k : Int) - 1 from by omega]; exact z3⟩
    · obtain ⟨z, z1, z2, z3⟩ := new_out h ly qy ld hd (show k + 1 < n by omega) (n - 2 - k) _ (by omega) f1 (by
        rw [show n - 1 - (k + (n - 2 - k) + 1) = 0 from by omega]; exact f2.mono (mT_num _ (by omega)).1)
      exact ⟨z, z1, z2, by rw [show (n : Int) - 2 = ((k + (n - 2 - k) : Nat) : Int) from by omega]; exact z3⟩
  obtain ⟨z, z1, z2, z3⟩ := main
  refine ⟨z, z1, ?_, ?_⟩
  · have v := nod_val (nod_ok h ly qy) k 0 (by omega)
    rw [Nat.zero_add, npol_hp] at v
    have := z2.add v
    rw [show vl z - hp (fun t => vl (ft x y t t)) (fun i => (p i : Rat) / 4) ((p k : Rat) / 4) 0 (k + 1) + (hp (fun t => vl (ft x y t t)) (fun i => (p i : Rat) / 4) ((p k : Rat) / 4) 0 (k + 1) - vl (ft x y 0 k)) = vl z - vl (y.getD k none) from by
      show _ - _ + (_ - vl (y.getD k none)) = _; grind] at this
    exact this.mono (eN_num k (by omega)).1
  · unfold i_NewtonAt
    rw [isList_fv (by omega) (by omega) (pts_fv h), obind_eq, bsel_true, isList_fv (by omega) (by omega) fd, obind_eq, bsel_true, decide_eq_true (by omega), Bool.not_true, bsel_false, i_IsFinite_eq (h.d k hk).fok, (h.d k hk).fin, obind_eq, bsel_true,
      wi64 (by omega) (by omega), olet_eq, show (d.length : Int) - 1 = ((n - 1 : Nat) : Int) from by omega, at?_n none (by omega), obind_eq, wi64 (by omega) (by omega), olet_eq, hd (n - 1) (by omega), ld, z3, obind_eq, osum_inl]
    unfold i_NewtonAt_k1 i_finite
    rw [i_IsFinite_eq z1.fok, z1.fin, obind_eq, bsel_true, obind2_eq]
theorem coBest_max {L : List F} (f : ∀ q, q < L.length → Fv (L.getD q none)) (h0 : 0 < L.length) : coBest L < L.length ∧ ∀ q, q < L.length → vl (fabs32 (L.getD q none)) ≤ vl (fabs32 (L.getD (coBest L) none)) := by
  have inv := run_inv (f := coFind L) (fun q b => b < L.length ∧ ∀ t, t < q → vl (fabs32 (L.getD t none)) ≤ vl (fabs32 (L.getD b none))) L.length 0 0 ⟨h0, fun t ht => absurd ht (Nat.not_lt_zero t)⟩ (fun q b h1 h2 ⟨i1, i2⟩ => by
    have hq : q < L.length := by omega
    refine ⟨coFind_lt hq i1, fun t ht => ?_⟩
    unfold coFind
    rw [fv_lt (fv_abs (f b i1)).1 (fv_abs (f q hq)).1]
    by_cases e : vl (fabs32 (L.getD b none)) < vl (fabs32 (L.getD q none))
    · rw [decide_eq_true e, cond_true]
      by_cases e2 : t = q
      · subst e2; exact Rat.le_refl
      · have := i2 t (by omega); grind
    · rw [decide_eq_false e, cond_false]
      by_cases e2 : t = q
      · subst e2; grind
      · exact i2 t (by omega))
  rw [Nat.zero_add] at inv
  exact inv
theorem coTake_at {A C i k : Nat} {R : List F} {p : F} {s : List F × List F} (h : COp A C s) : ∀ q, q < A * C → (coTake A C R i k p s).1.getD q none = fop .sub .f32 (s.1.getD q none) (coC C R i k p q) ∧ (coTake A C R i k p s).2.getD q none = fop .add .f32 (s.2.getD q none) (coC C R i k p q) := by
  have l1 := h.m.len
  have l2 := h.n.len
  have inv := run_inv (f := coE C R i k p) (fun q (t : List F × List F) => t.1.length = A * C ∧ t.2.length = A * C ∧ ∀ j, j < A * C → t.1.getD j none = (if j < q then fop .sub .f32 (s.1.getD j none) (coC C R i k p j) else s.1.getD j none) ∧ t.2.getD j none = (if j < q then fop .add .f32 (s.2.getD j none) (coC C R i k p j) else s.2.getD j none)) (A * C) 0 s
    ⟨l1, l2, fun j hj => ⟨by rw [if_neg (Nat.not_lt_zero j)], by rw [if_neg (Nat.not_lt_zero j)]⟩⟩ (fun q t h1 h2 ⟨i1, i2, i3⟩ => by
      have hq : q < A * C := by omega
      obtain ⟨a1, a2⟩ := i3 q hq
      rw [if_neg (by omega)] at a1 a2
      refine ⟨by simp [coE, i1], by simp [coE, i2], fun j hj => ?_⟩
      obtain ⟨b1, b2⟩ := i3 j hj
      unfold coE
      rw [a1, a2]
      by_cases e : q = j
      · subst e
        rw [if_pos (by omega), if_pos (by omega), List.getD_eq_getElem?_getD, List.getElem?_set_self (by omega), List.getD_eq_getElem?_getD (l := List.set _ _ _), List.getElem?_set_self (by omega)]
        exact ⟨rfl, rfl⟩
      · rw [List.getD_eq_getElem?_getD, List.getElem?_set_ne e, ← List.getD_eq_getElem?_getD, List.getD_eq_getElem?_getD (l := List.set _ _ _), List.getElem?_set_ne e, ← List.getD_eq_getElem?_getD, b1, b2]
        by_cases e2 : j < q
        · rw [if_pos e2, if_pos e2, if_pos (by omega), if_pos (by omega)]; exact ⟨rfl, rfl⟩
        · rw [if_neg e2, if_neg e2, if_neg (by omega), if_neg (by omega)]; exact ⟨rfl, rfl⟩)
  intro q hq
  obtain ⟨c1, c2⟩ := inv.2.2 q hq
  rw [if_pos (by omega)] at c1 c2
  exact ⟨c1, c2⟩
def wT : Nat → Rat
  | 0 => 0
  | j + 1 => 2 * wT j + 1 / 100000
theorem x_num : ∀ j, j < 5 → tO j * tO j ≤ (tQ j - 1 / 50000) * tD j ∧ 0 ≤ tQ j - 1 / 50000 ∧ tO j + tQ j ≤ tO (j + 1) ∧ tD (j + 1) ≤ tD j - tQ j ∧ tU j + tQ j ≤ tU (j + 1) ∧ tO j < tD j ∧ 0 ≤ tO j := by decide +kernel
theorem x_num6 : ∀ j, j < 6 → 3 ≤ tD j ∧ tU j ≤ 11 ∧ 0 ≤ wT j ∧ wT j ≤ 1 / 1000 := by decide +kernel
structure Cr (n : Nat) (a : Nat → Nat → Rat) (u : List Nat) (R S : List F) : Prop where
  mR : Mat n n R
  mS : Mat n n S
  fR : ∀ i k, i < n → k < n → Fv (gm none R n i k)
  fS : ∀ i k, i < n → k < n → Fv (gm none S n i k)
  un : u.Nodup
  ul : ∀ x ∈ u, x < n
  sum : ∀ i k, i < n → k < n → Ab (vm n S i k + vm n R i k - a i k) ((u.length : Rat) * (1 / 100000))
  dia : ∀ i, i < n → i ∉ u → tD u.length ≤ vm n R i i ∧ vm n R i i ≤ tU u.length
  off : ∀ i k, i < n → k < n → i ∉ u → k ∉ u → i ≠ k → Ab (vm n R i k) (tO u.length)
  old : ∀ i k, i < n → k < n → i ∈ u ∨ k ∈ u → Ab (vm n R i k) (wT u.length)
theorem nodup_le {n : Nat} {u : List Nat} (h : u.Nodup) (hl : ∀ x ∈ u, x < n) : u.length ≤ n := by
  have := List.Nodup.length_le_of_subset (l₁ := u) (l₂ := List.range n) h (fun y hy => List.mem_range.2 (hl y hy))
  simpa using this
theorem cr_free {n : Nat} {u : List Nat} (h : u.length < n) : ∃ r, r < n ∧ r ∉ u := by
  by_cases e : ∃ r, r < n ∧ r ∉ u
  · exact e
  · exfalso
    have := List.Nodup.length_le_of_subset (l₁ := List.range n) (l₂ := u) List.nodup_range (fun y hy => by
      have hy := List.mem_range.1 hy
      by_cases m : y ∈ u
      · exact m
      · exact absurd ⟨y, hy, m⟩ e)
    simp at this; omega
theorem cr_pick {n : Nat} {a : Nat → Nat → Rat} {u : List Nat} {R S : List F} (n6 : n ≤ 6) (h : Cr n a u R S) (hu : u.length < n) :
    ∃ r, r < n ∧ r ∉ u ∧ coBest R / n = r ∧ coBest R % n = r ∧ R.getD (coBest R) none = gm none R n r r ∧ ∀ i k, i < n → k < n → Ab (vm n R i k) (vm n R r r) := by
  have n0 : 0 < n := by omega
  obtain ⟨r0, r1, r2⟩ := cr_free hu
  have hl := h.mR.len
  have hf : ∀ q, q < R.length → Fv (R.getD q none) := fun q hq => by
    rw [hl] at hq
    obtain ⟨e, i1, i2⟩ := gm_flat (L := R) n0 hq
    rw [e]; exact h.fR _ _ i1 i2
  obtain ⟨b1, b2⟩ := coBest_max hf (by rw [hl]; exact Nat.mul_pos n0 n0)
  generalize coBest R = b at *
  have hb : b < n * n := by rw [← hl]; exact b1
  have d1 : b / n < n := (Nat.div_lt_iff_lt_mul n0).2 hb
  have d2 : b % n < n := Nat.mod_lt _ n0
  have eb : R.getD b none = gm none R n (b / n) (b % n) := (getD_gm (A := n)).symm
  have all : ∀ i k, i < n → k < n → Ab (vm n R i k) (vl (fabs32 (gm none R n (b / n) (b % n)))) := fun i k hi hk => by
    have lt : i * n + k < R.length := by rw [hl]; exact Nat.lt_of_lt_of_le (show i * n + k < (i + 1) * n by rw [Nat.succ_mul]; omega) (Nat.mul_le_mul_right n hi)
    have m := b2 (i * n + k) lt
    rw [eb] at m
    have m : vl (fabs32 (gm none R n i k)) ≤ _ := m
    obtain ⟨_, c2, c3⟩ := fv_abs (h.fR i k hi hk)
    unfold vm
    rcases c2 with c2 | c2 <;> exact ⟨by grind, by grind⟩
  obtain ⟨_, c2, c3⟩ := fv_abs (h.fR _ _ d1 d2)
  obtain ⟨q1, q2, q3, q4⟩ := x_num6 u.length (by omega)
  have low := (h.dia r0 r1 r2).1
  have top := (all r0 r0 r1 r1).2
  have c2 : vl (fabs32 (gm none R n (b / n) (b % n))) = vm n R (b / n) (b % n) ∨ vl (fabs32 (gm none R n (b / n) (b % n))) = -vm n R (b / n) (b % n) := c2
  generalize vl (fabs32 (gm none R n (b / n) (b % n))) = T at *
  have nu : b / n ∉ u ∧ b % n ∉ u := by
    by_cases e : b / n ∈ u ∨ b % n ∈ u
    · exfalso
      obtain ⟨o1, o2⟩ := h.old _ _ d1 d2 e
      rcases c2 with c2 | c2 <;> grind
    · exact ⟨fun x => e (.inl x), fun x => e (.inr x)⟩
  have same : b / n = b % n := by
    by_cases e : b / n = b % n
    · exact e
    · exfalso
      have nd : (b / n :: b % n :: u).Nodup := List.nodup_cons.2 ⟨fun m => by
        rcases List.mem_cons.1 m with m | m
        · exact e m
        · exact nu.1 m, List.nodup_cons.2 ⟨nu.2, h.un⟩⟩
      have le := nodup_le (n := n) nd (fun x hx => by
        rcases List.mem_cons.1 hx with rfl | hx
        · exact d1
        · rcases List.mem_cons.1 hx with rfl | hx
          · exact d2
          · exact h.ul x hx)
      simp only [List.length_cons] at le
      obtain ⟨_, _, _, _, _, z, _⟩ := x_num u.length (by omega)
      obtain ⟨o1, o2⟩ := h.off _ _ d1 d2 nu.1 nu.2 e
      rcases c2 with c2 | c2 <;> grind
  refine ⟨b / n, d1, nu.1, rfl, same.symm, by rw [eb, ← same], fun i k hi hk => ?_⟩
  rw [← same] at c2
  have dp := (h.dia (b / n) d1 nu.1).1
  have : T = vm n R (b / n) (b / n) := by rcases c2 with c2 | c2 <;> grind
  rw [← this]; exact all i k hi hk
theorem cross_one {p y z w s : F} {P : Rat} (hp : Fv p) (hy : Fv y) (hz : Fv z) (hw : Fv w) (hs : Fv s) (ep : vl p = P) (p1 : 3 ≤ P) (p2 : P ≤ 11) (by_ : Ab (vl y) P) (bz : Ab (vl z) P) (bw : Ab (vl w) 11) (bs : Ab (vl s) 20) :
    Fv (fop .sub .f32 w (fop .mul .f32 (fop .quo .f32 y p) z)) ∧ Fv (fop .add .f32 s (fop .mul .f32 (fop .quo .f32 y p) z)) ∧ Ab (vl (fop .sub .f32 w (fop .mul .f32 (fop .quo .f32 y p) z)) - (vl w - vl y / P * vl z)) (1 / 100000) ∧ Ab (vl (fop .add .f32 s (fop .mul .f32 (fop .quo .f32 y p) z)) + vl (fop .sub .f32 w (fop .mul .f32 (fop .quo .f32 y p) z)) - (vl s + vl w)) (1 / 100000) := by
  have P0 : 0 < P := by grind
  have e1 : vl y / P * P = vl y := div_mul_pos P0
  have q : Ab (vl y / P) 1 := ⟨Rat.le_of_mul_le_mul_right (c := P) (by have := by_.1; grind) P0, Rat.le_of_mul_le_mul_right (c := P) (by have := by_.2; grind) P0⟩
  obtain ⟨t1, t2⟩ := fv_quo hy hp (by rw [ep]; grind) (by rw [ep]; exact q) (by decide +kernel)
  rw [ep] at t2
  generalize fop .quo .f32 y p = t at *
  have t3 := t2.mul (bz.mono p2)
  have tb := t2.add q
  rw [show vl t - vl y / P + vl y / P = vl t from by grind] at tb
  have tz : Ab (vl t * vl z) 12 := (tb.mul (bz.mono p2)).mono (by decide +kernel)
  obtain ⟨c1, c2⟩ := fv_mul t1 hz tz (by decide +kernel)
  generalize fop .mul .f32 t z = c at *
  have c3 : Ab (vl c - vl y / P * vl z) (3 / 1000000) := by
    have := c2.add t3
    rw [show vl c - vl t * vl z + (vl t - vl y / P) * vl z = vl c - vl y / P * vl z from by grind] at this
    exact this.mono (by decide +kernel)
  have cb : Ab (vl c) 13 := by
    have := c2.add tz
    rw [show vl c - vl t * vl z + vl t * vl z = vl c from by grind] at this
    exact this.mono (by decide +kernel)
  obtain ⟨r1, r2⟩ := fv_sub hw c1 ((bw.sub cb).mono (show (11 : Rat) + 13 ≤ 24 by decide +kernel)) (by decide +kernel)
  obtain ⟨s1, s2⟩ := fv_add hs c1 ((bs.add cb).mono (show (20 : Rat) + 13 ≤ 33 by decide +kernel)) (by decide +kernel)
  refine ⟨r1, s1, ?_, ?_⟩
  · have := r2.sub c3
    rw [show vl (fop .sub .f32 w c) - (vl w - vl c) - (vl c - vl y / P * vl z) = vl (fop .sub .f32 w c) - (vl w - vl y / P * vl z) from by grind] at this
    exact this.mono (by decide +kernel)
  · have := s2.add r2
    rw [show vl (fop .add .f32 s c) - (vl s + vl c) + (vl (fop .sub .f32 w c) - (vl w - vl c)) = vl (fop .add .f32 s c) + vl (fop .sub .f32 w c) - (vl s + vl w) from by grind] at this
    exact this.mono (by decide +kernel)
theorem cr_step {n : Nat} {a : Nat → Nat → Rat} {u : List Nat} {R S : List F} (n6 : n ≤ 6) (ha : ∀ i k, i < n → k < n → Ab (a i k) 8) (h : Cr n a u R S) (hu : u.length < n) :
    ∃ r, r < n ∧ r ∉ u ∧ coBest R / n = r ∧ coBest R % n = r ∧ Fv (R.getD (coBest R) none) ∧ 3 ≤ vl (R.getD (coBest R) none) ∧ Cr n a (r :: u) (coTake n n R r r (R.getD (coBest R) none) (R, S)).1 (coTake n n R r r (R.getD (coBest R) none) (R, S)).2 := by
  have n0 : 0 < n := by omega
  obtain ⟨r, hr, hru, e1, e2, e3, mx⟩ := cr_pick n6 h hu
  obtain ⟨q1, q2, q3, q4⟩ := x_num6 u.length (by omega)
  obtain ⟨dl, dh⟩ := h.dia r hr hru
  have fp := h.fR r r hr hr
  have op : COp n n (R, S) := ⟨h.mR, fun x hx => by
    obtain ⟨i, k, hi, hk, rfl⟩ := mem_gm h.mR hx
    exact (h.fR i k hi hk).fok, h.mS, fun x hx => by
    obtain ⟨i, k, hi, hk, rfl⟩ := mem_gm h.mS hx
    exact (h.fS i k hi hk).fok⟩
  have oq := coTake_inv (i := r) (k := r) (R := R) (p := R.getD (coBest R) none) op
  have at_ := coTake_at (i := r) (k := r) (R := R) (p := R.getD (coBest R) none) op
  rw [e3] at oq at_ ⊢
  refine ⟨r, hr, hru, e1, e2, fp, by show 3 ≤ vm n R r r; grind, ?_⟩
  generalize coTake n n R r r (gm none R n r r) (R, S) = Z at *
  have g : ∀ i k, i < n → k < n → gm none Z.1 n i k = fop .sub .f32 (gm none R n i k) (fop .mul .f32 (fop .quo .f32 (gm none R n i r) (gm none R n r r)) (gm none R n r k)) ∧ gm none Z.2 n i k = fop .add .f32 (gm none S n i k) (fop .mul .f32 (fop .quo .f32 (gm none R n i r) (gm none R n r r)) (gm none R n r k)) := fun i k hi hk => by
    have lt : i * n + k < n * n := Nat.lt_of_lt_of_le (show i * n + k < (i + 1) * n by rw [Nat.succ_mul]; omega) (Nat.mul_le_mul_right n hi)
    obtain ⟨a1, a2⟩ := at_ (i * n + k) lt
    unfold coC at a1 a2
    obtain ⟨v1, v2⟩ := divmod_at (n := n) (i := i) hk
    rw [v1, v2] at a1 a2
    exact ⟨a1, a2⟩
  have len1 : ((u.length : Nat) : Rat) ≤ 6 := by exact_mod_cast (show u.length ≤ 6 by omega)
  have len0 : (0 : Rat) ≤ ((u.length : Nat) : Rat) := by exact_mod_cast Nat.zero_le _
  have one : ∀ i k, i < n → k < n → _ := fun i k hi hk => cross_one fp (h.fR i r hi hr) (h.fR r k hr hk) (h.fR i k hi hk) (h.fS i k hi hk) rfl (show 3 ≤ vm n R r r by grind) (show vm n R r r ≤ 11 by grind) (mx i r hi hr) (mx r k hr hk) ((mx i k hi hk).mono (by grind)) (by
    have s := h.sum i k hi hk
    have b := (mx i k hi hk).mono (show vm n R r r ≤ 11 by grind)
    have a8 := ha i k hi hk
    show Ab (vm n S i k) 20
    have := (s.add a8).sub b
    rw [show vm n S i k + vm n R i k - a i k + a i k - vm n R i k = vm n S i k from by grind] at this
    exact this.mono (by grind))
  have near : ∀ i k, i < n → k < n → Ab (vm n Z.1 i k - (vm n R i k - vm n R i r / vm n R r r * vm n R r k)) (1 / 100000) := fun i k hi hk => by
    have := (one i k hi hk).2.2.1
    unfold vm; rw [(g i k hi hk).1]; exact this
  have P0 : 0 < vm n R r r := by grind
  have quo1 : ∀ i, i < n → ∀ e, Ab (vm n R i r) e → e ≤ vm n R r r → Ab (vm n R i r / vm n R r r) 1 := fun i hi e he hle => by
    have e1 : vm n R i r / vm n R r r * vm n R r r = vm n R i r := div_mul_pos P0
    exact ⟨Rat.le_of_mul_le_mul_right (c := vm n R r r) (by have := he.1; grind) P0, Rat.le_of_mul_le_mul_right (c := vm n R r r) (by have := he.2; grind) P0⟩
  have z1 : ∀ i k, i < n → k < n → ∀ e, Ab (vm n R r k) e → Ab (vm n R i r / vm n R r r * vm n R r k) e := fun i k hi hk e he => by
    have := (quo1 i hi _ (mx i r hi hr) Rat.le_refl).mul he
    exact this.mono (by grind)
  have z2 : ∀ i k, i < n → k < n → ∀ e, Ab (vm n R i r) e → Ab (vm n R i r / vm n R r r * vm n R r k) e := fun i k hi hk e he => by
    have c : vm n R r k / vm n R r r * vm n R r r = vm n R r k := div_mul_pos P0
    have d : vm n R i r / vm n R r r * vm n R r r = vm n R i r := div_mul_pos P0
    have q : Ab (vm n R r k / vm n R r r) 1 := ⟨Rat.le_of_mul_le_mul_right (c := vm n R r r) (by have := (mx r k hr hk).1; grind) P0, Rat.le_of_mul_le_mul_right (c := vm n R r r) (by have := (mx r k hr hk).2; grind) P0⟩
    have := he.mul q
    rw [show vm n R i r * (vm n R r k / vm n R r r) = vm n R i r / vm n R r r * vm n R r k from by
      have x : vm n R i r * (vm n R r k / vm n R r r) = (vm n R i r / vm n R r r * vm n R r r) * (vm n R r k / vm n R r r) := by rw [d]
      rw [x]
      have y : vm n R i r / vm n R r r * vm n R r k = vm n R i r / vm n R r r * (vm n R r k / vm n R r r * vm n R r r) := by rw [c]
      rw [y]; grind] at this
    exact this.mono (by grind)
  have un' : (r :: u).Nodup := List.nodup_cons.2 ⟨hru, h.un⟩
  have ul' : ∀ x ∈ r :: u, x < n := fun x hx => by
    rcases List.mem_cons.1 hx with rfl | hx
    · exact hr
    · exact h.ul x hx
  have more : ∀ i, i < n → i ∉ r :: u → u.length < 5 := fun i hi hm => by
    have le := nodup_le (n := n) (u := i :: r :: u) (List.nodup_cons.2 ⟨hm, un'⟩) (fun x hx => by
      rcases List.mem_cons.1 hx with rfl | hx
      · exact hi
      · exact ul' x hx)
    simp only [List.length_cons] at le
    omega
  have zz : ∀ i k, i < n → k < n → i ∉ r :: u → k ∉ r :: u → Ab (vm n R i r / vm n R r r * vm n R r k) (tQ u.length - 1 / 50000) := fun i k hi hk hi2 hk2 => by
    obtain ⟨y1, y2, y3, y4, y5, y6, y7⟩ := x_num u.length (more i hi hi2)
    have ir : i ≠ r ∧ i ∉ u := ⟨fun e => hi2 (List.mem_cons.2 (.inl e)), fun e => hi2 (List.mem_cons.2 (.inr e))⟩
    have kr : k ≠ r ∧ k ∉ u := ⟨fun e => hk2 (List.mem_cons.2 (.inl e)), fun e => hk2 (List.mem_cons.2 (.inr e))⟩
    have o1 := h.off i r hi hr ir.2 hru ir.1
    have o2 := h.off r k hr hk hru kr.2 (Ne.symm kr.1)
    have m := o1.mul o2
    have c : vm n R i r / vm n R r r * vm n R r r = vm n R i r := div_mul_pos P0
    have ee : vm n R i r / vm n R r r * vm n R r k * vm n R r r = vm n R i r * vm n R r k := by
      rw [show vm n R i r / vm n R r r * vm n R r k * vm n R r r = vm n R i r / vm n R r r * vm n R r r * vm n R r k from by grind, c]
    have k1 : (tQ u.length - 1 / 50000) * tD u.length ≤ (tQ u.length - 1 / 50000) * vm n R r r := Rat.mul_le_mul_of_nonneg_left dl y2
    generalize (tQ u.length - 1 / 50000) = Q at *
    generalize vm n R i r / vm n R r r * vm n R r k = zq at *
    obtain ⟨m1, m2⟩ := m
    exact ⟨Rat.le_of_mul_le_mul_right (c := vm n R r r) (by rw [ee]; grind) P0, Rat.le_of_mul_le_mul_right (c := vm n R r r) (by rw [ee]; grind) P0⟩
  refine ⟨oq.m, oq.n, fun i k hi hk => by rw [(g i k hi hk).1]; exact (one i k hi hk).1, fun i k hi hk => by rw [(g i k hi hk).2]; exact (one i k hi hk).2.1, un', ul', fun i k hi hk => ?_, fun i hi him => ?_, fun i k hi hk him hkm hne => ?_, fun i k hi hk hm => ?_⟩
  · have c := (one i k hi hk).2.2.2
    rw [← (g i k hi hk).1, ← (g i k hi hk).2] at c
    have := Ab.add (show Ab (vm n Z.2 i k + vm n Z.1 i k - (vm n S i k + vm n R i k)) (1 / 100000) from c) (h.sum i k hi hk)
    rw [show vm n Z.2 i k + vm n Z.1 i k - (vm n S i k + vm n R i k) + (vm n S i k + vm n R i k - a i k) = vm n Z.2 i k + vm n Z.1 i k - a i k from by grind] at this
    rw [List.length_cons]
    exact this.mono (by push_cast; grind)
  · obtain ⟨y1, y2, y3, y4, y5, y6, y7⟩ := x_num u.length (more i hi him)
    obtain ⟨b1, b2⟩ := near i i hi hi
    obtain ⟨c1, c2⟩ := zz i i hi hi him him
    obtain ⟨d1, d2⟩ := h.dia i hi (fun e => him (List.mem_cons.2 (.inr e)))
    rw [List.length_cons]
    exact ⟨by grind, by grind⟩
  · obtain ⟨y1, y2, y3, y4, y5, y6, y7⟩ := x_num u.length (more i hi him)
    obtain ⟨b1, b2⟩ := near i k hi hk
    obtain ⟨c1, c2⟩ := zz i k hi hk him hkm
    obtain ⟨d1, d2⟩ := h.off i k hi hk (fun e => him (List.mem_cons.2 (.inr e))) (fun e => hkm (List.mem_cons.2 (.inr e))) hne
    rw [List.length_cons]
    exact ⟨by grind, by grind⟩
  · obtain ⟨b1, b2⟩ := near i k hi hk
    rw [List.length_cons]
    show Ab _ (2 * wT u.length + 1 / 100000)
    by_cases ei : i = r
    · subst ei
      have c : vm n R i i / vm n R i i * vm n R i i = vm n R i i := div_mul_pos P0
      have c2 : vm n R i i / vm n R i i = 1 := by
        have : (vm n R i i / vm n R i i - 1) * vm n R i i = 0 := by grind
        rcases Rat.mul_eq_zero.1 this with e | e <;> grind
      rw [c2] at b1 b2
      exact ⟨by grind, by grind⟩
    · by_cases ek : k = r
      · subst ek
        have c : vm n R i k / vm n R k k * vm n R k k = vm n R i k := div_mul_pos P0
        exact ⟨by grind, by grind⟩
      · rcases hm with hm | hm
        · have mi : i ∈ u := by rcases List.mem_cons.1 hm with e | e; exact absurd e ei; exact e
          obtain ⟨c1, c2⟩ := z2 i k hi hk _ (h.old i r hi hr (.inl mi))
          obtain ⟨d1, d2⟩ := h.old i k hi hk (.inl mi)
          exact ⟨by grind, by grind⟩
        · have mk : k ∈ u := by rcases List.mem_cons.1 hm with e | e; exact absurd e ek; exact e
          obtain ⟨c1, c2⟩ := z1 i k hi hk _ (h.old r k hr hk (.inr mk))
          obtain ⟨d1, d2⟩ := h.old i k hi hk (.inr mk)
          exact ⟨by grind, by grind⟩
def pO : Nat → Rat | 0 => 1 | 1 => 1168 / 1000 | 2 => 1403 / 1000 | 3 => 1755 / 1000 | 4 => 2344 / 1000 | 5 => 3534 / 1000 | _ => 72 / 10
def pD : Nat → Rat | 0 => 6 | 1 => 5832 / 1000 | 2 => 5597 / 1000 | 3 => 5245 / 1000 | 4 => 4656 / 1000 | 5 => 3466 / 1000 | _ => -1
def pQ : Nat → Rat | 0 => 168 / 1000 | 1 => 235 / 1000 | 2 => 352 / 1000 | 3 => 589 / 1000 | 4 => 1190 / 1000 | _ => 3605 / 1000
def pU : Nat → Rat | 0 => 8 | 1 => 8168 / 1000 | 2 => 8403 / 1000 | 3 => 8755 / 1000 | 4 => 9344 / 1000 | 5 => 10534 / 1000 | _ => 15
theorem p_num : ∀ j, j < 6 → (pO j + cE) * (pO j + cE) ≤ pQ j * (pD j - cE) ∧ 0 ≤ pQ j ∧ pQ j ≤ 361 / 100 ∧ pO j + pQ j ≤ pO (j + 1) ∧ pD (j + 1) ≤ pD j - pQ j ∧ pU j + pQ j ≤ pU (j + 1) ∧ 3466 / 1000 ≤ pD j ∧ 0 ≤ pO j ∧ pO j ≤ 354 / 100 ∧ pU j ≤ 1054 / 100 := by decide +kernel
theorem p_num5 : ∀ j, j < 5 → 4656 / 1000 ≤ pD j ∧ pO j ≤ 2344 / 1000 ∧ pO j + cE + cE ≤ 51 / 100 * (pD j - cE) := by decide +kernel
structure PTab (n : Nat) (a : Nat → Nat → Rat) : Prop where
  n5 : n ≤ 6
  off : ∀ i k, i < n → k < n → i ≠ k → Ab (a i k) 1
  dia : ∀ i, i < n → 6 ≤ a i i ∧ a i i ≤ 8
structure SLp (a w : Nat → Nat → Rat) (j x y : Nat) : Prop where
  off : x ≠ y → Ab (slu a w j x y) (pO j)
  dia : x = y → pD j ≤ slu a w j x x ∧ slu a w j x x ≤ pU j
theorem slp_bound {n : Nat} {a w : Nat → Nat → Rat} {k : Nat} (T : PTab n a) (hk : k ≤ n) (h : Lud n a w k) : ∀ j, j ≤ k → (∀ x y, j ≤ x → j ≤ y → x < n → y < n → SLp a w j x y) ∧ (j < k → ∀ x y, j < x → j < y → x < n → y < n → Ab (w x j * w j y) (pQ j)) := by
  have n5 := T.n5
  have step : ∀ j, j ≤ k → (∀ x y, j ≤ x → j ≤ y → x < n → y < n → SLp a w j x y) → (j < k → ∀ x y, j < x → j < y → x < n → y < n → Ab (w x j * w j y) (pQ j)) := by
    intro j hj ih hjk x y hx hy hxn hyn
    obtain ⟨q1, q2, q3, q4, q5, q6, q7, q8, q9, q10⟩ := p_num j (by omega)
    exact prodl_bound (h.lo x j hjk hx hxn) (h.up j y hjk (by omega) hyn) (h.up j j hjk (Nat.le_refl _) (by omega)) ((ih x j (by omega) (Nat.le_refl _) hxn (by omega)).off (by omega)) ((ih j y (Nat.le_refl _) (by omega) (by omega) hyn).off (by omega)) ((ih j j (Nat.le_refl _) (Nat.le_refl _) (by omega) (by omega)).dia rfl).1 q1 (by unfold cE; grind) q2
  intro j
  induction j with
  | zero =>
    intro h0
    have b : ∀ x y, 0 ≤ x → 0 ≤ y → x < n → y < n → SLp a w 0 x y := fun x y _ _ hx hy => by
      refine ⟨fun hne => ?_, fun e => ?_⟩ <;> rw [slu_zero]
      · exact T.off x y hx hy hne
      · exact T.dia x hx
    exact ⟨b, step 0 h0 b⟩
  | succ j ih =>
    intro hj
    obtain ⟨ih1, ih2⟩ := ih (by omega)
    obtain ⟨q1, q2, q3, q4, q5, q6, q7, q8, q9, q10⟩ := p_num j (by omega)
    have b : ∀ x y, j + 1 ≤ x → j + 1 ≤ y → x < n → y < n → SLp a w (j + 1) x y := fun x y hx hy hxn hyn => by
      have p := ih2 (by omega) x y (by omega) (by omega) hxn hyn
      have B := ih1 x y (by omega) (by omega) hxn hyn
      refine ⟨fun hne => ?_, fun e => ?_⟩ <;> rw [slu_succ]
      · exact ((B.off hne).sub p).mono q4
      · subst e
        have := B.dia rfl
        obtain ⟨p1, p2⟩ := p
        exact ⟨by grind, by grind⟩
    exact ⟨b, step (j + 1) hj b⟩
theorem lup_step {n k : Nat} {a : Nat → Nat → Rat} {L : List F} (T : PTab n a) (hk : k < n) (h : LuInv n a k L) :
    run (findP n k L) (k + 1) (n - (k + 1)) k = k ∧ feq .f32 (gm none L n k k) (some 0) = false ∧ LuInv n a (k + 1) (elimP n n k L) := by
  have n5 := T.n5
  have c0 : cE = 3 / 100000 := rfl
  obtain ⟨B, _⟩ := slp_bound T (by omega) h.d k (Nat.le_refl _)
  obtain ⟨q1, q2, q3, q4, q5, q6, q7, q8, q9, q10⟩ := p_num k (by omega)
  have hk4 : (k : Rat) * (1 / 400000) ≤ 2 / 100000 := by
    have : (k : Rat) ≤ 5 := by exact_mod_cast (show k ≤ 5 by omega)
    grind
  have hk0 : (0 : Rat) ≤ (k : Rat) := by exact_mod_cast Nat.zero_le k
  have dk := (B k k (Nat.le_refl _) (Nat.le_refl _) hk hk).dia rfl
  have ak := h.act k k (Nat.le_refl _) (Nat.le_refl _) hk hk
  have wk : 346 / 100 ≤ vm n L k k ∧ vm n L k k ≤ 106 / 10 := ⟨by have := ak.1; grind, by have := ak.2; grind⟩
  have off : ∀ i j, k ≤ i → k ≤ j → i < n → j < n → i ≠ j → Ab (vm n L i j) (pO k + 2 / 100000) := fun i j hi hj hin hjn hne => by
    have := (h.act i j hi hj hin hjn).add ((B i j hi hj hin hjn).off hne)
    rw [show vm n L i j - slu a (vm n L) k i j + slu a (vm n L) k i j = vm n L i j from by grind] at this
    exact this.mono (by grind)
  have f0 : ∀ i, k < i → i < n → Fv (fop .quo .f32 (gm none L n i k) (gm none L n k k)) ∧ Ab (vl (fop .quo .f32 (gm none L n i k) (gm none L n k k)) * vm n L k k - vm n L i k) (2 / 1000000) ∧ Ab (vl (fop .quo .f32 (gm none L n i k) (gm none L n k k))) (53 / 100) := fun i hki hi => by
    have o := off i k (by omega) (Nat.le_refl _) hi hk (by omega)
    have pos : 0 < vm n L k k := by grind
    obtain ⟨r1, r2, r3⟩ := p_num5 k (by omega)
    have w5 : 465 / 100 ≤ vm n L k k := by have := ak.1; grind
    have ne : vm n L k k ≠ 0 := by grind
    have hq : Ab (vm n L i k / vm n L k k) (52 / 100) := by
      have e1 : vm n L i k / vm n L k k * vm n L k k = vm n L i k := by grind
      obtain ⟨a1, a2⟩ := o
      exact ⟨Rat.le_of_mul_le_mul_right (c := vm n L k k) (by rw [e1]; grind) pos, Rat.le_of_mul_le_mul_right (c := vm n L k k) (by rw [e1]; grind) pos⟩
    obtain ⟨c1, c2⟩ := fv_quo (h.fv i k hi hk) (h.fv k k hk hk) ne hq (by decide +kernel)
    have c2 : Ab (vl (fop .quo .f32 (gm none L n i k) (gm none L n k k)) - vm n L i k / vm n L k k) (e32 (52 / 100)) := c2
    generalize vl (fop .quo .f32 (gm none L n i k) (gm none L n k k)) = c at *
    have e1 : e32 (52 / 100) ≤ 1 / 10000000 := by decide +kernel
    refine ⟨c1, ?_, ?_⟩
    · have m := (c2.mono e1).mul (show Ab (vm n L k k) 11 from ⟨by grind, by grind⟩)
      rw [show (c - vm n L i k / vm n L k k) * vm n L k k = c * vm n L k k - vm n L i k from by grind] at m
      exact m.mono (by grind)
    · have := c2.add hq
      rw [show c - vm n L i k / vm n L k k + vm n L i k / vm n L k k = c from by grind] at this
      exact this.mono (by grind)
  have g := elim_gm h.m hk
  have mE := elimP_mat (A := n) (k := k) h.m
  generalize elimP n n k L = M at *
  have g1 : ∀ i j, i < n → j < n → ¬ (k < i ∧ k ≤ j) → vm n M i j = vm n L i j := fun i j hi hj hne => by
    unfold vm; rw [g i j hi hj]
    by_cases e : k < i
    · rw [if_pos e, if_pos (by omega)]
    · rw [if_neg e]
  have g2 : ∀ i, k < i → i < n → vm n M i k = vl (fop .quo .f32 (gm none L n i k) (gm none L n k k)) := fun i hki hi => by
    unfold vm; rw [g i k hi hk, if_pos hki, if_neg (by omega), if_pos rfl]
  have ss : ∀ i c, i < n → c < n → slu a (vm n M) k i c = slu a (vm n L) k i c := fun i c hi hc => slu_congr (fun t ht => g1 i t hi (by omega) (by omega)) (fun t ht => g1 t c (by omega) hc (by omega))
  refine ⟨find_diag (h.fv k k hk hk) (fun r h1 h2 => ⟨h.fv r k h2 hk, (off r k (by omega) (Nat.le_refl _) h2 hk (by omega)).mono (by show pO k + 2 / 100000 ≤ vm n L k k; obtain ⟨r1, r2, r3⟩ := p_num5 k (by omega); have := ak.1; grind)⟩) _ (by omega), ?_, mE, fun i j hi hj => ?_, ⟨fun i t ht hti hi => ?_, fun i j hik hij hj => ?_⟩, fun i j hi hj hin hjn => ?_⟩
  · rw [fv_eq (h.fv k k hk hk) fv_zero.1, fv_zero.2, decide_eq_false (by show ¬ vm n L k k = 0; grind)]
  · rw [g i j hi hj]
    by_cases e : k < i
    · rw [if_pos e]
      by_cases e1 : j < k
      · rw [if_pos e1]; exact h.fv i j hi hj
      · rw [if_neg e1]
        by_cases e2 : j = k
        · rw [if_pos e2]; exact (f0 i e hi).1
        · rw [if_neg e2]
          obtain ⟨p1, _, p3⟩ := f0 i e hi
          have o := off k j (Nat.le_refl _) (by omega) hk hj (by omega)
          have hw : Ab (vm n L i j) 11 := by
            by_cases e3 : i = j
            · subst e3
              have d := (B i i (by omega) (by omega) hi hi).dia rfl
              have a := h.act i i (by omega) (by omega) hi hi
              exact ⟨by have := a.1; grind, by have := a.2; grind⟩
            · exact (off i j (by omega) (by omega) hi hj e3).mono (by grind)
          have hP : Ab (vl (fop .quo .f32 (gm none L n i k) (gm none L n k k)) * vm n L k j) 2 := (p3.mul o).mono (by grind)
          exact (fv_submul (e := 1 / 400000) (h.fv i j hi hj) p1 (h.fv k j hk hj) hP ((hw.sub hP).mono (show (11 : Rat) + 2 ≤ 13 by decide +kernel)) (by decide +kernel) (by decide +kernel) (by decide +kernel)).1
    · rw [if_neg e]; exact h.fv i j hi hj
  · by_cases e : t = k
    · subst e
      obtain ⟨_, p2, _⟩ := f0 i hti hi
      rw [ss i t hi hk, g2 i hti hi, g1 t t hk hk (by omega)]
      have := p2.add (h.act i t (by omega) (Nat.le_refl _) hi hk)
      rw [show vl (fop .quo .f32 (gm none L n i t) (gm none L n t t)) * vm n L t t - vm n L i t + (vm n L i t - slu a (vm n L) t i t) = vl (fop .quo .f32 (gm none L n i t) (gm none L n t t)) * vm n L t t - slu a (vm n L) t i t from by grind] at this
      exact this.mono (by grind)
    · rw [g1 i t hi (by omega) (by omega), g1 t t (by omega) (by omega) (by omega), slu_congr (w := vm n L) (fun s hs => g1 i s hi (by omega) (by omega)) (fun s hs => g1 s t (by omega) (by omega) (by omega))]
      exact h.d.lo i t (by omega) hti hi
  · rw [g1 i j (by omega) hj (by omega), slu_congr (w := vm n L) (fun s hs => g1 i s (by omega) (by omega) (by omega)) (fun s hs => g1 s j (by omega) hj (by omega))]
    by_cases e : i = k
    · subst e
      exact (h.act i j (Nat.le_refl _) hij hk hj).mono (by grind)
    · exact h.d.up i j (by omega) hij hj
  · have hki : k < i := by omega
    obtain ⟨p1, p2, p3⟩ := f0 i hki hin
    have o := off k j (Nat.le_refl _) (by omega) hk hjn (by omega)
    have hw : Ab (vm n L i j) 11 := by
      by_cases e3 : i = j
      · subst e3
        have d := (B i i (by omega) (by omega) hin hin).dia rfl
        have a := h.act i i (by omega) (by omega) hin hin
        exact ⟨by have := a.1; grind, by have := a.2; grind⟩
      · exact (off i j (by omega) (by omega) hin hjn e3).mono (by grind)
    have hP : Ab (vl (fop .quo .f32 (gm none L n i k) (gm none L n k k)) * vm n L k j) 2 := (p3.mul o).mono (by grind)
    have s2 := (fv_submul (e := 1 / 400000) (h.fv i j hin hjn) p1 (h.fv k j hk hjn) hP ((hw.sub hP).mono (show (11 : Rat) + 2 ≤ 13 by decide +kernel)) (by decide +kernel) (by decide +kernel) (by decide +kernel)).2
    have e1 : vm n M i j = vl (fop .sub .f32 (gm none L n i j) (fop .mul .f32 (fop .quo .f32 (gm none L n i k) (gm none L n k k)) (gm none L n k j))) := by
      unfold vm; rw [g i j hin hjn, if_pos hki, if_neg (by omega), if_neg (by omega)]
    rw [slu_succ, ss i j hin hjn, e1, g2 i hki hin, g1 k j hk hjn (by omega)]
    have := s2.add (h.act i j (by omega) (by omega) hin hjn)
    generalize vl (fop .sub .f32 (gm none L n i j) (fop .mul .f32 (fop .quo .f32 (gm none L n i k) (gm none L n k k)) (gm none L n k j))) = z at *
    rw [show z - (vl (gm none L n i j) - vl (fop .quo .f32 (gm none L n i k) (gm none L n k k)) * vl (gm none L n k j)) + (vm n L i j - slu a (vm n L) k i j) = z - (slu a (vm n L) k i j - vl (fop .quo .f32 (gm none L n i k) (gm none L n k k)) * vm n L k j) from by unfold vm; grind] at this
    exact this.mono (by push_cast; grind)
theorem lup_all {n : Nat} {a : Nat → Nat → Rat} {L : List F} (T : PTab n a) (m : Mat n n L) (fv : ∀ i j, i < n → j < n → Fv (gm none L n i j)) (ha : ∀ i j, i < n → j < n → vm n L i j = a i j) : ∃ M, runE (frStep n) 0 n (L, upTo n) = .inl (M, upTo n) ∧ LuInv n a n M := by
  have h0 : LuInv n a 0 L := ⟨m, fv, ⟨fun i t h => by omega, fun i j h => by omega⟩, fun i j _ _ hi hj => by
    rw [slu_zero, ha i j hi hj]
    exact ⟨by simp; grind, by simp; grind⟩⟩
  obtain ⟨s, e, h1, h2⟩ := runE_all (f := frStep n) (fun k s => LuInv n a k s.1 ∧ s.2 = upTo n) n 0 (L, upTo n) ⟨h0, rfl⟩ (fun k s _ hk ⟨h1, h2⟩ => by
    have hk : k < n := by omega
    obtain ⟨s1, s2, s3⟩ := lup_step T hk h1
    have al : (elimP n n k s.1).all fin32 = true := List.all_eq_true.2 fun x hx => by
      obtain ⟨i, j, hi, hj, rfl⟩ := mem_gm s3.m hx
      exact (s3.fv i j hi hj).fin
    refine ⟨(elimP n n k s.1, upTo n), ?_, s3, rfl⟩
    unfold frStep
    rw [s1]
    unfold frPick
    rw [s2, cond_false, swapR_self h1.m hk, al, cond_true, h2, tradeP_self (by rw [upTo_len]; exact hk)])
  rw [Nat.zero_add] at h1
  refine ⟨s.1, ?_, h1⟩
  rw [e, ← h2]
theorem s_FactorRows_lup {n : Nat} {a : Nat → Nat → Rat} {L : List F} (T : PTab n a) (n0 : 0 < n) (m : Mat n n L) (fv : ∀ i j, i < n → j < n → Fv (gm none L n i j)) (ha : ∀ i j, i < n → j < n → vm n L i j = a i j) : ∃ M, LuInv n a n M ∧ s_FactorRows (n : Int) (n : Int) L = some ((n : Int), (n : Int), true, M, upTo n) := by
  obtain ⟨M, e, h⟩ := lup_all T m fv ha
  have fL : ∀ x ∈ L, Fv x := fun x hx => by
    obtain ⟨i, j, hi, hj, rfl⟩ := mem_gm m hx
    exact fv i j hi hj
  have g : FOks L := fun y hy => (fL y hy).fok
  have al : L.all fin32 = true := List.all_eq_true.2 fun y hy => (fL y hy).fin
  have h0 : FrInv n (L, upTo n) := ⟨m, g, al, upTo_len n⟩
  have hs : ∀ k s, 0 ≤ k → k < n → FrInv n s → (∃ s', frStep n k s = .inl s' ∧ s_FactorRows_s1 (n : Int) (n : Int) (n : Int) L (upTo n) (s.1, s.2, (k : Int)) = some (.next (s'.1, s'.2, ((k + 1 : Nat) : Int))) ∧ FrInv n s') ∨ (∃ r, frStep n k s = .inr r ∧ s_FactorRows_s1 (n : Int) (n : Int) (n : Int) L (upTo n) (s.1, s.2, (k : Int)) = some (.ret r)) := by
    intro k s _ hk hI
    have := s_FactorRows_step L (upTo n) m.len (upTo_len n) hk hI
    cases e : frStep n k s with
    | inl s' => rw [e] at this; exact .inl ⟨s', rfl, this, frStep_inv hk hI e⟩
    | inr r => rw [e] at this; exact .inr ⟨r, rfl, this⟩
  obtain ⟨e1, _⟩ := loop_endE (step := s_FactorRows_s1 (n : Int) (n : Int) (n : Int) L (upTo n)) (fun (k : Nat) (s : List F × List Int) => (s.1, s.2, (k : Int))) (frStep n) (fun s => s) (fun _ s => FrInv n s) (lo := 0) (n := n) (Nat.zero_le _) (s0 := (L, upTo n)) h0 hs
    (fun s _ => by
      show s_FactorRows_b1 _ _ _ _ _ _ _ _ = _
      unfold s_FactorRows_b1
      rw [dnlt, bsel_false])
  replace e1 : loopM (s_FactorRows_s1 (n : Int) (n : Int) (n : Int) L (upTo n)) (L, upTo n, 0) = some (endE (fun s => s) (runE (frStep n) 0 n (L, upTo n))) := e1
  refine ⟨M, h, ?_⟩
  unfold s_FactorRows
  rw [s_l02Square_eq _ _ g m.le, mat_valid m n0 n0, al, decide_eq_true rfl, Bool.and_self, obind_eq, bsel_true, s_l02Own_eq _ _ m.le, obind3_eq, s_l03Count_eq m.A1, obind_eq, e1, e, obind_eq]
  rfl
def pl : Nat → Rat | 0 => 168 / 1000 | 1 => 201 / 1000 | 2 => 251 / 1000 | 3 => 335 / 1000 | _ => 504 / 1000
def ky : Nat → Rat | 0 => 4001 / 1000 | 1 => 468 / 100 | 2 => 562 / 100 | 3 => 703 / 100 | 4 => 939 / 100 | _ => 1412 / 100
def qx (i : Nat) : Rat := ky i + ((5 - i : Nat) : Rat) * ((pO i + cE) * (42 / 10))
theorem pl_num : ∀ j, j < 5 → pO j + cE + cE ≤ pl j * (pD j - cE) ∧ 0 ≤ pl j ∧ pl j ≤ 504 / 1000 ∧ (pO j + cE) * (42 / 10) ≤ 10 := by decide +kernel
theorem ky_num : ∀ i, i < 6 → 4 + rs (fun t => pl t * ky t) i + 1 / 1000 ≤ ky i ∧ 0 ≤ ky i ∧ pl i * ky i ≤ 10 ∧ 0 ≤ pl i * ky i ∧ 4 + rs (fun t => pl t * ky t) i ≤ 15 := by decide +kernel
theorem qx_num : ∀ i, i < 6 → qx i + 1 / 1000 ≤ (pD i - cE) * (42 / 10 - 1 / 1000) ∧ qx i ≤ 31 ∧ 1 / 2 ≤ pD i - cE ∧ 0 ≤ (pO i + cE) * (42 / 10) ∧ 0 ≤ pO i := by decide +kernel
structure TrP (n : Nat) (a : Nat → Nat → Rat) (M : List F) : Prop where
  m : Mat n n M
  n5 : n ≤ 6
  fe : ∀ i j, i < n → j < n → Fv (gm none M n i j)
  dia : ∀ i, i < n → pD i - cE ≤ vm n M i i ∧ vm n M i i ≤ 106 / 10
  up : ∀ i j, i < j → j < n → Ab (vm n M i j) (pO i + cE)
  lo : ∀ i j, j < i → i < n → Ab (vm n M i j) (pl j)
  prodU : ∀ i j, i ≤ j → j < n → Ab (rs (fun t => vm n M i t * vm n M t j) i + vm n M i j - a i j) cE
  prodL : ∀ i j, j < i → i < n → Ab (rs (fun t => vm n M i t * vm n M t j) (j + 1) - a i j) cE
theorem tp_facts {n : Nat} {a : Nat → Nat → Rat} {M : List F} (T : PTab n a) (h : LuInv n a n M) : TrP n a M := by
  have n5 := T.n5
  have c0 : cE = 3 / 100000 := rfl
  have SBs := slp_bound T (Nat.le_refl n) h.d
  have dia : ∀ i, i < n → pD i - cE ≤ vm n M i i ∧ vm n M i i ≤ 106 / 10 := fun i hi => by
    have d := ((SBs i (by omega)).1 i i (Nat.le_refl _) (Nat.le_refl _) hi hi).dia rfl
    have u := h.d.up i i hi (Nat.le_refl _) hi
    obtain ⟨_, _, _, _, _, _, q7, _, _, q10⟩ := p_num i (by omega)
    exact ⟨by have := u.1; grind, by have := u.2; grind⟩
  refine ⟨h.m, n5, h.fv, dia, fun i j hij hj => ?_, fun i j hij hi => ?_, fun i j hij hj => ?_, fun i j hij hi => ?_⟩
  · have o := ((SBs i (by omega)).1 i j (Nat.le_refl _) (by omega) (by omega) hj).off (by omega)
    have := (h.d.up i j (by omega) (by omega) hj).add o
    rw [show vm n M i j - slu a (vm n M) i i j + slu a (vm n M) i i j = vm n M i j from by grind] at this
    exact this.mono (by grind)
  · have o := ((SBs j (by omega)).1 i j (by omega) (Nat.le_refl _) hi (by omega)).off (by omega)
    have := (h.d.lo i j (by omega) hij hi).add o
    rw [show vm n M i j * vm n M j j - slu a (vm n M) j i j + slu a (vm n M) j i j = vm n M i j * vm n M j j from by grind] at this
    obtain ⟨k1, k2, k3, k4⟩ := pl_num j (by omega)
    obtain ⟨_, _, z3, _, _⟩ := qx_num j (by omega)
    have dl := (dia j (by omega)).1
    have kk : pl j * (pD j - cE) ≤ pl j * vm n M j j := Rat.mul_le_mul_of_nonneg_left dl k2
    obtain ⟨a1, a2⟩ := this
    exact ⟨Rat.le_of_mul_le_mul_right (c := vm n M j j) (by grind) (by grind), Rat.le_of_mul_le_mul_right (c := vm n M j j) (by grind) (by grind)⟩
  · have := h.d.up i j (by omega) hij hj
    unfold slu at this
    generalize rs (fun t => vm n M i t * vm n M t j) i = S at *
    rw [show S + vm n M i j - a i j = vm n M i j - (a i j - S) from by grind]
    exact this
  · have := h.d.lo i j (by omega) hij hi
    unfold slu at this
    show Ab (rs (fun t => vm n M i t * vm n M t j) j + vm n M i j * vm n M j j - a i j) cE
    generalize rs (fun t => vm n M i t * vm n M t j) j = S at *
    rw [show S + vm n M i j * vm n M j j - a i j = vm n M i j * vm n M j j - (a i j - S) from by grind]
    exact this
theorem ordB_upTo6 {n : Nat} (h1 : 1 ≤ n) (h5 : n ≤ 6) : ordB (upTo n) = true := by
  match n, h1, h5 with
  | 1, _, _ => decide +kernel
  | 2, _, _ => decide +kernel
  | 3, _, _ => decide +kernel
  | 4, _, _ => decide +kernel
  | 5, _, _ => decide +kernel
  | 6, _, _ => decide +kernel
theorem TrP.fv {n : Nat} {a : Nat → Nat → Rat} {M : List F} (H : TrP n a M) : ∀ x ∈ M, Fv x := fun x hx => by
  obtain ⟨i, j, hi, hj, rfl⟩ := mem_gm H.m hx
  exact H.fe i j hi hj
theorem tp_oks {n : Nat} {a : Nat → Nat → Rat} {M : List F} (H : TrP n a M) : FOks M := fun y hy => by
  obtain ⟨i, j, hi, hj, rfl⟩ := mem_gm H.m hy
  exact (H.fe i j hi hj).fok
theorem tp_fin {n : Nat} {a : Nat → Nat → Rat} {M : List F} (H : TrP n a M) : M.all fin32 = true := List.all_eq_true.2 fun y hy => by
  obtain ⟨i, j, hi, hj, rfl⟩ := mem_gm H.m hy
  exact (H.fe i j hi hj).fin
theorem tp_mid {n : Nat} {a : Nat → Nat → Rat} {M : List F} (H : TrP n a M) : midB n M = true := by
  unfold midB
  refine List.all_eq_true.2 fun x hx => ?_
  obtain ⟨i, hi, rfl⟩ := List.mem_map.1 hx
  have hi := List.mem_range.1 hi
  have n5 := H.n5
  have : pD i - cE ≤ vl (gm none M n i i) := (H.dia i hi).1
  have := (qx_num i (by omega)).2.2.1
  rw [fv_eq fv_zero.1 (H.fe i i hi hi), fv_zero.2, decide_eq_false (by grind)]; rfl
theorem tp_fac {n : Nat} {a : Nat → Nat → Rat} {M : List F} (H : TrP n a M) (n0 : 0 < n) : facB (n : Int) (n : Int) M (upTo n) = true := by
  unfold facB
  rw [mat_valid H.m n0 n0, tp_fin H, ordB_upTo6 n0 H.n5, upTo_len, Int.toNat_natCast, tp_mid H]
  simp
theorem tp_prod {n : Nat} {a : Nat → Nat → Rat} {M : List F} (H : TrP n a M) {i k : Nat} (hi : i < n) (hk : k < n) : Ab (rs (fun t => pL n M i t * qU n M t k) n - a i k) cE := by
  rcases Nat.lt_or_ge k i with hlt | hge
  · rw [rs_lo (i := k + 1) (by omega) fun t h1 h2 => by unfold qU; rw [if_neg (show ¬ t ≤ k by omega)]; grind]
    rw [rs_congr (g := fun t => vm n M i t * vm n M t k) fun t ht => by unfold pL qU; rw [if_pos (show t < i by omega), if_pos (show t ≤ k by omega)]]
    exact H.prodL i k hlt hi
  · rw [rs_lo (i := i + 1) (by omega) fun t h1 h2 => by unfold pL; rw [if_neg (show ¬ t < i by omega), if_neg (show ¬ t = i by omega)]; grind]
    show Ab (rs (fun t => pL n M i t * qU n M t k) i + pL n M i i * qU n M i k - a i k) cE
    rw [rs_congr (g := fun t => vm n M i t * vm n M t k) fun t ht => by unfold pL qU; rw [if_pos ht, if_pos (show t ≤ k by omega)]]
    have e1 : pL n M i i = 1 := by unfold pL; rw [if_neg (by omega), if_pos rfl]
    have e2 : qU n M i k = vm n M i k := by unfold qU; rw [if_pos hge]
    rw [e1, e2, show rs (fun t => vm n M i t * vm n M t k) i + 1 * vm n M i k - a i k = rs (fun t => vm n M i t * vm n M t k) i + vm n M i k - a i k from by grind]
    exact H.prodU i k hge hk
theorem i_FactorSolve_fp {n : Nat} {a : Nat → Nat → Rat} {M b : List F} (H : TrP n a M) (n0 : 0 < n) (hb : b.length = n) (fb : ∀ x ∈ b, Fv x) (fX : ∀ x ∈ upL (upH n M) n (lowL (rowH n M) b n), Fv x) : i_FactorSolve (n : Int) (n : Int) M (upTo n) b = some (true, upL (upH n M) n (lowL (rowH n M) b n)) := by
  have hn := H.m.A1
  have gb : FOks b := fun y hy => (fb y hy).fok
  have ab : b.all fin32 = true := List.all_eq_true.2 fun y hy => (fb y hy).fin
  have hv : vecB b = true := by unfold vecB; rw [hb, decide_eq_true (by omega), decide_eq_true (by omega), ab]; rfl
  have hf : fitB (n : Int) (n : Int) M (upTo n) b = true := by unfold fitB; rw [tp_fac H n0, hv, hb, decide_eq_true rfl]; rfl
  have hr : ∀ i, i < n → 0 ≤ (upTo n).getD i 0 ∧ (upTo n).getD i 0 < (n : Int) := fun i hi => by rw [upTo_at hi]; omega
  have lX : (upL (upH n M) n (lowL (rowH n M) b n)).length = n := by rw [upL_len, lowL_len]
  unfold i_FactorSolve
  rw [i_Factor_takes_eq _ _ _ (tp_oks H) H.m.le gb (by omega), hf, obind_eq, bsel_true, i_Factor_solve_eq H.m n0 hb (upTo_len n) hr, ordC_upTo hb, obind_eq]
  unfold i_allFinite_0o
  rw [i_areFinite_eq (fun y hy => (fX y hy).fok) (by omega), show (upL (upH n M) n (lowL (rowH n M) b n)).all fin32 = true from List.all_eq_true.2 fun y hy => (fX y hy).fin, obind_eq, bsel_true, obind_eq, osum_inl, obind2_eq, decide_eq_true rfl, need_true]
theorem low_H {f : Nat → Nat → F} {c : List F} {n : Nat} (n6 : n ≤ 6) (fc : ∀ i, i < n → Fv (c.getD i none) ∧ Ab (vl (c.getD i none)) 4) (ff : ∀ i k, k < i → i < n → Fv (f i k) ∧ Ab (vl (f i k)) (pl k)) {h : Nat → F → List F → F} (hh : ∀ i y L, h i y L = lessG (f i) L 0 i y) :
    ∀ i, i < n → Fv ((lowL h c n).getD i none) ∧ Ab (vl ((lowL h c n).getD i none)) (ky i) ∧ Ab (vl ((lowL h c n).getD i none) + rs (fun t => vl (f i t) * vl ((lowL h c n).getD t none)) i - vl (c.getD i none)) (36 / 1000000) := by
  intro i
  induction i using Nat.strongRecOn with
  | ind i ih =>
    intro hi
    obtain ⟨c1, c2⟩ := fc i hi
    obtain ⟨y1, y2, y3, y4, y5⟩ := ky_num i (by omega)
    have one : ∀ j, j < i → Fv (f i j) ∧ Fv ((lowL h c i).getD j none) ∧ Ab (vl (f i j) * vl ((lowL h c i).getD j none)) (pl j * ky j) := by
      intro j hj
      rw [lowL_pre (n := n) hj (by omega)]
      obtain ⟨p1, p2, _⟩ := ih j hj (by omega)
      obtain ⟨f1, f2⟩ := ff i j hj hi
      exact ⟨f1, p1, f2.mul p2⟩
    have hS : ∀ j, j ≤ i → Ab (vl (c.getD i none) - rs (fun t => vl (f i (0 + t)) * vl ((lowL h c i).getD (0 + t) none)) j) (4 + rs (fun t => pl t * ky t) i) := by
      intro j hj
      have h1 : Ab (rs (fun t => vl (f i (0 + t)) * vl ((lowL h c i).getD (0 + t) none)) j) (rs (fun t => pl t * ky t) j) := rs_mono fun t ht => by
        rw [Nat.zero_add]; exact (one t (by omega)).2.2
      have h2 : rs (fun t => pl t * ky t) j ≤ rs (fun t => pl t * ky t) i := rs_part (m := i) (fun t ht => (ky_num t (by omega)).2.2.2.1) hj (Nat.le_refl _)
      exact (c2.sub h1).mono (by grind)
    obtain ⟨r1, r2⟩ := less_near (f := f i) (g := fun k => (lowL h c i).getD k none) (y := c.getD i none) (P := 10) (S := 15) (e := 3 / 1000000) (lo := 0) (m := i) c1 (by omega) (fun j hj => by
      rw [Nat.zero_add]
      obtain ⟨p1, p2, p3⟩ := one j hj
      exact ⟨p1, p2, p3.mono (ky_num j (by omega)).2.2.1⟩) (fun j hj => (hS j hj).mono y5) (by decide +kernel) (by decide +kernel) (by decide +kernel) (by decide +kernel) (by decide +kernel) i (Nat.le_refl _)
    have e1 : (lowL h c n).getD i none = run (fun k s => fop .sub .f32 s (fop .mul .f32 (f i k) ((lowL h c i).getD k none))) 0 i (c.getD i none) := by rw [lowL_get2 hi, hh]; rfl
    have e2 : rs (fun t => vl (f i (0 + t)) * vl ((lowL h c i).getD (0 + t) none)) i = rs (fun t => vl (f i t) * vl ((lowL h c n).getD t none)) i := rs_congr fun t ht => by rw [Nat.zero_add, lowL_pre (n := n) ht (by omega)]
    have hSm := hS i (Nat.le_refl _)
    rw [e2] at r2 hSm
    rw [e1]
    generalize run (fun k s => fop .sub .f32 s (fop .mul .f32 (f i k) ((lowL h c i).getD k none))) 0 i (c.getD i none) = z at *
    generalize rs (fun t => vl (f i t) * vl ((lowL h c n).getD t none)) i = T at *
    have h1 : (i : Rat) ≤ 12 := by exact_mod_cast (show i ≤ 12 by omega)
    refine ⟨r1, ?_, ?_⟩
    · have := r2.add hSm
      rw [show vl z - (vl (c.getD i none) - T) + (vl (c.getD i none) - T) = vl z from by grind] at this
      exact this.mono (by grind)
    · rw [show vl z + T - vl (c.getD i none) = vl z - (vl (c.getD i none) - T) from by grind]
      exact r2.mono (by grind)
theorem up_H {f : Nat → Nat → F} {d : Nat → F} {c : List F} {n : Nat} (n6 : n ≤ 6) (hc : c.length = n) (fc : ∀ i, i < n → Fv (c.getD i none) ∧ Ab (vl (c.getD i none)) (ky i)) (ff : ∀ i k, i < k → k < n → Fv (f i k) ∧ Ab (vl (f i k)) (pO i + cE)) (fd : ∀ i, i < n → Fv (d i) ∧ pD i - cE ≤ vl (d i) ∧ vl (d i) ≤ 106 / 10)
    {h : Nat → F → List F → F} (hh : ∀ i y L, h i y L = fop .quo .f32 (lessG (f i) L (i + 1) (n - (i + 1)) y) (d i)) :
    ∀ j i, i + j + 1 = n → Fv ((upL h n c).getD i none) ∧ Ab (vl ((upL h n c).getD i none)) (42 / 10) ∧ Ab (vl (d i) * vl ((upL h n c).getD i none) + rs (fun t => vl (f i (i + 1 + t)) * vl ((upL h n c).getD (i + 1 + t) none)) (n - (i + 1)) - vl (c.getD i none)) (7 / 100000) := by
  intro j
  induction j using Nat.strongRecOn with
  | ind j ih =>
    intro i hij
    have hi : i < n := by omega
    have hm : n - (i + 1) = j := by omega
    obtain ⟨L', u1, u2, u3⟩ := upL_get (h := h) hc i hi
    obtain ⟨c1, c2⟩ := fc i hi
    obtain ⟨x1, x2, x3, x4, x5⟩ := qx_num i (by omega)
    have lt : ∀ t, t < j → L'.getD (i + 1 + t) none = (upL h n c).getD (i + 1 + t) none := fun t ht => u3 _ (by omega) (by omega)
    have one : ∀ t, t < j → Fv (f i (i + 1 + t)) ∧ Fv (L'.getD (i + 1 + t) none) ∧ Ab (vl (f i (i + 1 + t)) * vl (L'.getD (i + 1 + t) none)) ((pO i + cE) * (42 / 10)) := by
      intro t ht
      rw [lt t ht]
      obtain ⟨p1, p2, _⟩ := ih (j - 1 - t) (by omega) (i + 1 + t) (by omega)
      obtain ⟨f1, f2⟩ := ff i (i + 1 + t) (by omega) (by omega)
      exact ⟨f1, p1, f2.mul p2⟩
    have hS : ∀ q, q ≤ j → Ab (vl (c.getD i none) - rs (fun t => vl (f i (i + 1 + t)) * vl (L'.getD (i + 1 + t) none)) q) (qx i) := by
      intro q hq
      have h1 : Ab (rs (fun t => vl (f i (i + 1 + t)) * vl (L'.getD (i + 1 + t) none)) q) ((q : Rat) * ((pO i + cE) * (42 / 10))) := rs_ab fun t ht => (one t (by omega)).2.2
      have h2 : (q : Rat) ≤ ((5 - i : Nat) : Rat) := by exact_mod_cast (show q ≤ 5 - i by omega)
      have h3 := Rat.mul_le_mul_of_nonneg_right h2 x4
      exact (c2.sub h1).mono (by unfold qx; grind)
    obtain ⟨r1, r2⟩ := less_near (f := f i) (g := fun k => L'.getD k none) (y := c.getD i none) (P := 10) (S := 31) (e := 5 / 1000000) (lo := i + 1) (m := j) c1 (by omega) (fun t ht => by
      obtain ⟨p1, p2, p3⟩ := one t ht
      exact ⟨p1, p2, p3.mono (pl_num i (by omega)).2.2.2⟩) (fun q hq => (hS q hq).mono x2) (by decide +kernel) (by decide +kernel) (by decide +kernel) (by decide +kernel) (by decide +kernel) j (Nat.le_refl _)
    have e1 : (upL h n c).getD i none = fop .quo .f32 (run (fun k s => fop .sub .f32 s (fop .mul .f32 (f i k) (L'.getD k none))) (i + 1) j (c.getD i none)) (d i) := by rw [u1, hh, hm]; rfl
    have e2 : rs (fun t => vl (f i (i + 1 + t)) * vl (L'.getD (i + 1 + t) none)) j = rs (fun t => vl (f i (i + 1 + t)) * vl ((upL h n c).getD (i + 1 + t) none)) j := rs_congr fun t ht => by rw [lt t ht]
    have hSm := hS j (Nat.le_refl _)
    rw [e2] at r2 hSm
    rw [hm, e1]
    generalize run (fun k s => fop .sub .f32 s (fop .mul .f32 (f i k) (L'.getD k none))) (i + 1) j (c.getD i none) = z at *
    generalize rs (fun t => vl (f i (i + 1 + t)) * vl ((upL h n c).getD (i + 1 + t) none)) j = T at *
    have h1 : (j : Rat) ≤ 12 := by exact_mod_cast (show j ≤ 12 by omega)
    have hz : Ab (vl z) (qx i + 1 / 1000) := by
      have := r2.add hSm
      rw [show vl z - (vl (c.getD i none) - T) + (vl (c.getD i none) - T) = vl z from by grind] at this
      exact this.mono (by grind)
    obtain ⟨d1, d2, d3⟩ := fd i hi
    obtain ⟨q1, q2, q3⟩ := post_quo (δ := pD i - cE) (Δ := 106 / 10) (bq := 42 / 10) d1 d2 d3 x3 r1 hz x1 (by decide +kernel) (by decide +kernel)
    refine ⟨q1, q2, ?_⟩
    have := q3.add r2
    rw [show vl (d i) * vl (fop .quo .f32 z (d i)) - vl z + (vl z - (vl (c.getD i none) - T)) = vl (d i) * vl (fop .quo .f32 z (d i)) + T - vl (c.getD i none) from by grind] at this
    have k : (106 : Rat) / 10 * e32 (42 / 10) ≤ 6 / 1000000 := by decide +kernel
    exact this.mono (by grind)
theorem row_six {n i : Nat} {p g : Nat → Rat} {d β e : Rat} (hi : i < n) (h5 : n ≤ 6) (hd : Ab (p i) d) (ho : ∀ t, t < n → t ≠ i → Ab (p t) β) (hg : ∀ t, t < n → Ab (g t) e) (hβ : 0 ≤ β) : Ab (rs (fun t => p t * g t) n) (d * e + 5 * (β * e)) := by
  have e0 := (hg i hi).nonneg
  have hβe := Rat.mul_nonneg hβ e0
  rw [rs_pick (fun t => p t * g t) i n, if_pos hi]
  have hole : Ab (rs (fun t => if t = i then 0 else p t * g t) n) (((n - 1 : Nat) : Rat) * (β * e)) := by
    have : rs (fun t => if t = i then 0 else p t * g t) n = rs (fun t => if t = i then 0 else (if t < n then p t * g t else 0)) n := rs_congr fun t ht => by rw [if_pos ht]
    rw [this]
    refine rs_hole (fun t ht => ?_) hβe n hi
    by_cases htn : t < n
    · rw [if_pos htn]; exact (ho t htn ht).mul (hg t htn)
    · rw [if_neg htn]; exact ⟨by grind, by grind⟩
  have h4 : ((n - 1 : Nat) : Rat) ≤ 5 := by exact_mod_cast (show n - 1 ≤ 5 by omega)
  have := Rat.mul_le_mul_of_nonneg_right h4 hβe
  exact ((hd.mul (hg i hi)).add hole).mono (by grind)
theorem fac_six {n : Nat} {a : Nat → Nat → Rat} {M b : List F} {C : Rat} (H : TrP n a M) (T : PTab n a) (n0 : 0 < n) (hb : b.length = n) (C0 : 0 ≤ C) (C4 : C ≤ 4) (fb : ∀ i, i < n → Fv (b.getD i none) ∧ Ab (vl (b.getD i none)) C) :
    (∀ x ∈ upL (upH n M) n (lowL (rowH n M) b n), Fv x) ∧ (upL (upH n M) n (lowL (rowH n M) b n)).length = n ∧
    ∀ i, i < n → Ab (vl ((upL (upH n M) n (lowL (rowH n M) b n)).getD i none)) (C + 2 / 1000) ∧ Ab (rs (fun k => a i k * vl ((upL (upH n M) n (lowL (rowH n M) b n)).getD k none)) n - vl (b.getD i none)) (18 / 100000 * (C + 2 / 1000) + 3 / 10000) := by
  have n5 := H.n5
  have c0 : cE = 3 / 100000 := rfl
  have lo := low_H (f := fun i k => gm none M n i k) (c := b) n5 (fun i hi => ⟨(fb i hi).1, (fb i hi).2.mono C4⟩) (fun i k hk hi => ⟨H.fe i k hi (by omega), H.lo i k hk hi⟩) (h := rowH n M) (fun i y L => rfl)
  have ll : (lowL (rowH n M) b n).length = n := lowL_len n
  generalize lowL (rowH n M) b n = Y at *
  have up := up_H (f := fun i k => gm none M n i k) (d := fun i => gm none M n i i) (c := Y) n5 ll (fun i hi => ⟨(lo i hi).1, (lo i hi).2.1⟩) (fun i k hk hkn => ⟨H.fe i k (by omega) hkn, H.up i k hk hkn⟩) (fun i hi => ⟨H.fe i i hi hi, (H.dia i hi).1, (H.dia i hi).2⟩) (h := upH n M) (fun i y L => rfl)
  have lX : (upL (upH n M) n Y).length = n := by rw [upL_len, ll]
  generalize upL (upH n M) n Y = X at *
  have up' : ∀ i, i < n → Fv (X.getD i none) ∧ Ab (vl (X.getD i none)) (42 / 10) ∧ Ab (rs (fun k => qU n M i k * vl (X.getD k none)) n - vl (Y.getD i none)) (7 / 100000) := fun i hi => by
    obtain ⟨p1, p2, p3⟩ := up (n - 1 - i) i (by omega)
    refine ⟨p1, p2, ?_⟩
    have e : rs (fun k => qU n M i k * vl (X.getD k none)) n = vm n M i i * vl (X.getD i none) + rs (fun t => vm n M i (i + 1 + t) * vl (X.getD (i + 1 + t) none)) (n - (i + 1)) := by
      rw [rs_hi (i := i) (by omega) fun t ht => by unfold qU; rw [if_neg (show ¬ i ≤ t by omega)]; grind, show n - i = n - (i + 1) + 1 from by omega, rs_head, Nat.add_zero]
      congr 1
      · unfold qU; rw [if_pos (Nat.le_refl _)]
      · exact rs_congr fun t ht => by unfold qU; rw [if_pos (show i ≤ i + (t + 1) by omega), show i + (t + 1) = i + 1 + t from by omega]
    rw [e]
    exact p3
  have lo' : ∀ i, i < n → Ab (rs (fun t => pL n M i t * vl (Y.getD t none)) n - vl (b.getD i none)) (36 / 1000000) := fun i hi => by
    obtain ⟨p1, p2, p3⟩ := lo i hi
    have e : rs (fun t => pL n M i t * vl (Y.getD t none)) n = vl (Y.getD i none) + rs (fun t => vm n M i t * vl (Y.getD t none)) i := by
      rw [rs_lo (i := i + 1) (by omega) fun t h1 h2 => by unfold pL; rw [if_neg (show ¬ t < i by omega), if_neg (show ¬ t = i by omega)]; grind]
      show rs (fun t => pL n M i t * vl (Y.getD t none)) i + pL n M i i * vl (Y.getD i none) = _
      rw [rs_congr (g := fun t => vm n M i t * vl (Y.getD t none)) fun t ht => by unfold pL; rw [if_pos ht], show pL n M i i = 1 from by unfold pL; rw [if_neg (by omega), if_pos rfl]]
      grind
    rw [e]
    exact p3
  have hn6 : (n : Rat) ≤ 6 := by exact_mod_cast n5
  have res : ∀ K, 0 ≤ K → (∀ k, k < n → Ab (vl (X.getD k none)) K) → ∀ i, i < n → Ab (rs (fun k => a i k * vl (X.getD k none)) n - vl (b.getD i none)) (18 / 100000 * K + 3 / 10000) := fun K K0 hK i hi => by
    have r := row_six (p := pL n M i) (g := fun t => rs (fun k => qU n M t k * vl (X.getD k none)) n - vl (Y.getD t none)) (d := 1) (β := 504 / 1000) hi n5 (by unfold pL; rw [if_neg (by omega), if_pos rfl]; exact ⟨by decide +kernel, by decide +kernel⟩) (fun t ht hne => by
      unfold pL
      by_cases h : t < i
      · rw [if_pos h]; exact (H.lo i t h hi).mono (pl_num t (by omega)).2.2.1
      · rw [if_neg h, if_neg hne]; exact ⟨by decide +kernel, by decide +kernel⟩) (fun t ht => (up' t ht).2.2) (by decide +kernel)
    have := chain_res (p := pL n M) (q := qU n M) (x := fun k => vl (X.getD k none)) (y := fun t => vl (Y.getD t none)) (b := fun i => vl (b.getD i none)) (e2 := fun _ => 7 / 100000) (E := fun k => a i k) (fun k hk => tp_prod H hi hk) hK (lo' i hi) (fun t ht => (up' t ht).2.2) r
    refine this.mono ?_
    have h1 : (n : Rat) * (cE * K) ≤ 6 * (cE * K) := Rat.mul_le_mul_of_nonneg_right hn6 (Rat.mul_nonneg (by decide +kernel) K0)
    rw [c0] at h1 ⊢
    grind
  have h4 : ((n - 1 : Nat) : Rat) ≤ 5 := by exact_mod_cast (show n - 1 ≤ 5 by omega)
  have x2 : ∀ k, k < n → Ab (vl (X.getD k none)) (C + 2 / 1000) := by
    refine dom (a := a) (b := fun i => vl (b.getD i none)) (δ := 6) (γ := 1) (C := C) (ρ := 14 / 10000) n0 (fun i hi => (T.dia i hi).1) (fun i k hi hk hne => T.off i k hi hk hne) (by decide +kernel) (fun i hi => (fb i hi).2) (fun i hi => (res (42 / 10) (by decide +kernel) (fun k hk => (up' k hk).2.1) i hi).mono (by decide +kernel)) ?_ ?_
    · have := Rat.mul_le_mul_of_nonneg_right (show 1 ≤ 6 - ((n - 1 : Nat) : Rat) * 1 from by grind) (show 0 ≤ C + 2 / 1000 from by grind)
      grind
    · grind
  refine ⟨fun x hx => ?_, lX, fun i hi => ⟨x2 i hi, res _ (by grind) x2 i hi⟩⟩
  obtain ⟨i, hi, rfl⟩ := mem_getD hx
  exact (up' i (by omega)).1
theorem dot_v {n : Nat} {v x : List F} {β X S : Rat} (n6 : n ≤ 6) (fv : ∀ i, i < n → Fv (v.getD i none) ∧ Ab (vl (v.getD i none)) β) (fx : ∀ i, i < n → Fv (x.getD i none) ∧ Ab (vl (x.getD i none)) X) (hP : β * X ≤ 101 / 100) :
    Fv (dotN (fun i => v.getD i none) (fun i => x.getD i none) n) ∧ Ab (vl (dotN (fun i => v.getD i none) (fun i => x.getD i none) n) - rs (fun k => vl (v.getD k none) * vl (x.getD k none)) n) (6 / 1000000) := by
  have pr : ∀ j, j < n → Ab (vl (v.getD j none) * vl (x.getD j none)) (101 / 100) := fun j hj => ((fv j hj).2.mul (fx j hj).2).mono hP
  obtain ⟨d1, d2⟩ := dotN_near (f := fun i => v.getD i none) (g := fun i => x.getD i none) (P := 101 / 100) (S := 6 * (101 / 100)) (e := 1 / 1000000) (n := n) (by omega) (fun j hj => ⟨(fv j hj).1, (fx j hj).1, pr j hj⟩) (fun j hj => by
    have h := rs_ab (n := j) (f := fun t => vl (v.getD t none) * vl (x.getD t none)) (e := 101 / 100) fun t ht => pr t (by omega)
    have h1 : (j : Rat) ≤ 6 := by exact_mod_cast (show j ≤ 6 by omega)
    exact h.mono (by grind)) (by decide +kernel) (by decide +kernel) (by decide +kernel) (by decide +kernel) (by decide +kernel)
  have h1 : (n : Rat) ≤ 6 := by exact_mod_cast n6
  exact ⟨d1, d2.mono (by grind)⟩
theorem dvP_fv {n : Nat} {v x : List F} (n0 : 0 < n) (n6 : n ≤ 6) (lv : v.length = n) (lx : x.length = n) (fv : ∀ y ∈ v, Fv y) (fx : ∀ y ∈ x, Fv y) (hd : Fv (dotN (fun i => v.getD i none) (fun i => x.getD i none) n)) : dvP v x = (dotN (fun i => v.getD i none) (fun i => x.getD i none) n, true) := by
  have v1 : vecB v = true := by unfold vecB; rw [lv, decide_eq_true (by omega), decide_eq_true (by omega), List.all_eq_true.2 fun y hy => (fv y hy).fin]; rfl
  have v2 : vecB x = true := by unfold vecB; rw [lx, decide_eq_true (by omega), decide_eq_true (by omega), List.all_eq_true.2 fun y hy => (fx y hy).fin]; rfl
  have b : dotB v x = true := by unfold dotB; rw [v1, v2, lv, lx, decide_eq_true rfl]; rfl
  unfold dvP
  rw [b, cond_true, lv, hd.fin, cond_true]
theorem upd_fv {n : Nat} {a : Nat → Nat → Rat} {M u v y : List F} (H : TrP n a M) (T : PTab n a) (n0 : 0 < n) (lu : u.length = n) (lv : v.length = n) (ly : y.length = n) (fu : ∀ x ∈ u, Fv x) (fv : ∀ x ∈ v, Fv x) (fy : ∀ x ∈ y, Fv x)
    (bu : ∀ i, i < n → Ab (vl (u.getD i none)) (1 / 4)) (bv : ∀ i, i < n → Ab (vl (v.getD i none)) (1 / 4)) (by_ : ∀ i, i < n → Ab (vl (y.getD i none)) 4) :
    ∃ z : List F, z.length = n ∧ (∀ x ∈ z, Fv x) ∧ (∀ i, i < n → Ab (vl (z.getD i none)) (65 / 10)) ∧ (∀ i, i < n → Ab (rs (fun k => a i k * vl (z.getD k none)) n + rs (fun k => vl (v.getD k none) * vl (z.getD k none)) n * vl (u.getD i none) - vl (y.getD i none)) (50 / 10000)) ∧ i_UpdatedSolve (n : Int) (n : Int) M (upTo n) u v y = some (true, z) := by
  have n6 := H.n5
  have fat : ∀ {l : List F} {i : Nat}, (∀ x ∈ l, Fv x) → l.length = n → i < n → Fv (l.getD i none) := fun f hl hi => f _ (getD_mem (by omega))
  obtain ⟨x1, x2, x3⟩ := fac_six (C := 4) H T n0 ly (by decide +kernel) (by decide +kernel) fun i hi => ⟨fat fy ly hi, by_ i hi⟩
  obtain ⟨w1, w2, w3⟩ := fac_six (C := 1 / 4) H T n0 lu (by decide +kernel) (by decide +kernel) fun i hi => ⟨fat fu lu hi, bu i hi⟩
  have e1 := i_FactorSolve_fp H n0 ly fy x1
  have e2 := i_FactorSolve_fp H n0 lu fu w1
  generalize upL (upH n M) n (lowL (rowH n M) y n) = X at *
  generalize upL (upH n M) n (lowL (rowH n M) u n) = W at *
  obtain ⟨a1, a2⟩ := dot_v (S := 0) n6 (fun i hi => ⟨fat fv lv hi, bv i hi⟩) (fun i hi => ⟨fat x1 x2 hi, (x3 i hi).1⟩) (by decide +kernel)
  obtain ⟨b1, b2⟩ := dot_v (S := 0) n6 (fun i hi => ⟨fat fv lv hi, bv i hi⟩) (fun i hi => ⟨fat w1 w2 hi, (w3 i hi).1⟩) (by decide +kernel)
  have d1 := dvP_fv n0 n6 lv x2 fv x1 a1
  have d2 := dvP_fv n0 n6 lv w2 fv w1 b1
  generalize dotN (fun i => v.getD i none) (fun i => X.getD i none) n = α at *
  generalize dotN (fun i => v.getD i none) (fun i => W.getD i none) n = ω at *
  have hn6 : (n : Rat) ≤ 6 := by exact_mod_cast n6
  have hn0 : (0 : Rat) ≤ (n : Rat) := by exact_mod_cast Nat.zero_le n
  have A6 : Ab (rs (fun k => vl (v.getD k none) * vl (X.getD k none)) n) (6004 / 1000) := (rs_ab fun k hk => (bv k hk).mul (x3 k hk).1).mono (by grind)
  have W6 : Ab (rs (fun k => vl (v.getD k none) * vl (W.getD k none)) n) (379 / 1000) := (rs_ab fun k hk => (bv k hk).mul (w3 k hk).1).mono (by grind)
  generalize hA : rs (fun k => vl (v.getD k none) * vl (X.getD k none)) n = A at *
  generalize hW : rs (fun k => vl (v.getD k none) * vl (W.getD k none)) n = V at *
  have om : Ab (1 + vl ω) (14 / 10) := ⟨by have := b2.1; have := W6.1; grind, by have := b2.2; have := W6.2; grind⟩
  have one := one_fv
  obtain ⟨c1, c2⟩ := fv_add one.1 b1 (by rw [one.2]; exact om) (by decide +kernel)
  rw [one.2] at c2
  generalize hden : fop .add .f32 (some 1065353216) ω = den at *
  have e14 : e32 (14 / 10) ≤ 2 / 10000000 := by decide +kernel
  have dl : 62 / 100 ≤ vl den := by have := c2.1; have := b2.1; have := W6.1; grind
  have dh : vl den ≤ 14 / 10 := by have := c2.2; have := b2.2; have := W6.2; grind
  have al : Ab (vl α) (601 / 100) := ⟨by have := a2.1; have := A6.1; grind, by have := a2.2; have := A6.2; grind⟩
  have dp : 0 < vl den := by grind
  have eq1 : vl α / vl den * vl den = vl α := div_mul_pos dp
  have qb : Ab (vl α / vl den) (97 / 10) := ⟨Rat.le_of_mul_le_mul_right (c := vl den) (by have := al.1; grind) dp, Rat.le_of_mul_le_mul_right (c := vl den) (by have := al.2; grind) dp⟩
  obtain ⟨q1, q2⟩ := fv_quo a1 c1 (by grind) qb (by decide +kernel)
  generalize hq : fop .quo .f32 α den = q at *
  have e97 : e32 (97 / 10) ≤ 12 / 10000000 := by decide +kernel
  have qB : Ab (vl q) (971 / 100) := ⟨by have := q2.1; have := qb.1; grind, by have := q2.2; have := qb.2; grind⟩
  have qd : Ab (vl q * vl den - vl α) (2 / 1000000) := by
    have := q2.mul (show Ab (vl den) (14 / 10) from ⟨by grind, dh⟩)
    rw [show (vl q - vl α / vl den) * vl den = vl q * vl den - vl α from by grind] at this
    exact this.mono (by grind)
  -- q (1 + V) is A, nearly
  have qA : Ab (vl q * (1 + V) - A) (7 / 100000) := by
    have s1 : Ab (vl den - (1 + V)) (62 / 10000000) := ⟨by have := c2.1; have := b2.1; grind, by have := c2.2; have := b2.2; grind⟩
    have s2 := qB.mul s1
    have s3 := (qd.sub s2).add a2
    rw [show vl q * vl den - vl α - vl q * (vl den - (1 + V)) + (vl α - A) = vl q * (1 + V) - A from by grind] at s3
    exact s3.mono (by decide +kernel)
  have zi : ∀ i, i < n → Fv (fop .sub .f32 (X.getD i none) (fop .mul .f32 q (W.getD i none))) ∧ Ab (vl (fop .sub .f32 (X.getD i none) (fop .mul .f32 q (W.getD i none))) - (vl (X.getD i none) - vl q * vl (W.getD i none))) (2 / 1000000) ∧ Ab (vl (fop .sub .f32 (X.getD i none) (fop .mul .f32 q (W.getD i none)))) (65 / 10) := fun i hi => by
    have p := qB.mul (w3 i hi).1
    have s := (x3 i hi).1.sub p
    obtain ⟨r1, r2⟩ := fv_submul (e := 2 / 1000000) (fat x1 x2 hi) q1 (fat w1 w2 hi) (p.mono (f := 25 / 10) (by decide +kernel)) (s.mono (f := 6499 / 1000) (by decide +kernel)) (by decide +kernel) (by decide +kernel) (by decide +kernel)
    refine ⟨r1, r2, ?_⟩
    have := r2.add s
    rw [show vl (fop .sub .f32 (X.getD i none) (fop .mul .f32 q (W.getD i none))) - (vl (X.getD i none) - vl q * vl (W.getD i none)) + (vl (X.getD i none) - vl q * vl (W.getD i none)) = vl (fop .sub .f32 (X.getD i none) (fop .mul .f32 q (W.getD i none))) from by grind] at this
    exact this.mono (by decide +kernel)
  have zat : ∀ i, i < n → (usL q X W).getD i none = fop .sub .f32 (X.getD i none) (fop .mul .f32 q (W.getD i none)) := fun i hi => by
    unfold usL
    rw [List.getD_eq_getElem?_getD, List.getElem?_map, List.getElem?_range (by omega)]; rfl
  have lz : (usL q X W).length = n := by rw [usL_len, x2]
  have fz : ∀ x ∈ usL q X W, Fv x := fun x hx => by
    obtain ⟨i, hi, rfl⟩ := mem_getD hx
    rw [zat i (by omega)]; exact (zi i (by omega)).1
  refine ⟨usL q X W, lz, fz, fun i hi => by rw [zat i hi]; exact (zi i hi).2.2, fun i hi => ?_, ?_⟩
  · obtain ⟨_, r1⟩ := x3 i hi
    obtain ⟨_, r2⟩ := w3 i hi
    have ea : Ab (rs (fun k => a i k * vl ((usL q X W).getD k none)) n - (rs (fun k => a i k * vl (X.getD k none)) n - vl q * rs (fun k => a i k * vl (W.getD k none)) n)) (6 * (8 * (2 / 1000000))) := by
      rw [← rs_mul, ← rs_sub, ← rs_sub]
      have := rs_ab (n := n) (f := fun k => a i k * vl ((usL q X W).getD k none) - (a i k * vl (X.getD k none) - vl q * (a i k * vl (W.getD k none)))) (e := 8 * (2 / 1000000)) fun k hk => by
        have a8 : Ab (a i k) 8 := by
          by_cases e : i = k
          · subst e
            have := T.dia i hi
            exact ⟨by grind, by grind⟩
          · exact (T.off i k hi hk e).mono (by decide +kernel)
        have := a8.mul (zi k hk).2.1
        rw [← zat k hk] at this
        rw [show a i k * vl ((usL q X W).getD k none) - (a i k * vl (X.getD k none) - vl q * (a i k * vl (W.getD k none))) = a i k * (vl ((usL q X W).getD k none) - (vl (X.getD k none) - vl q * vl (W.getD k none))) from by grind]
        exact this
      exact this.mono (by grind)
    have ev : Ab (rs (fun k => vl (v.getD k none) * vl ((usL q X W).getD k none)) n - (A - vl q * V)) (6 * (1 / 4 * (2 / 1000000))) := by
      rw [← hA, ← hW, ← rs_mul, ← rs_sub, ← rs_sub]
      have := rs_ab (n := n) (f := fun k => vl (v.getD k none) * vl ((usL q X W).getD k none) - (vl (v.getD k none) * vl (X.getD k none) - vl q * (vl (v.getD k none) * vl (W.getD k none)))) (e := 1 / 4 * (2 / 1000000)) fun k hk => by
        have := (bv k hk).mul (zi k hk).2.1
        rw [← zat k hk] at this
        rw [show vl (v.getD k none) * vl ((usL q X W).getD k none) - (vl (v.getD k none) * vl (X.getD k none) - vl q * (vl (v.getD k none) * vl (W.getD k none))) = vl (v.getD k none) * (vl ((usL q X W).getD k none) - (vl (X.getD k none) - vl q * vl (W.getD k none))) from by grind]
        exact this
      exact this.mono (by grind)
    generalize rs (fun k => a i k * vl ((usL q X W).getD k none)) n = Z at *
    generalize rs (fun k => vl (v.getD k none) * vl ((usL q X W).getD k none)) n = D at *
    generalize rs (fun k => a i k * vl (X.getD k none)) n = AX at *
    generalize rs (fun k => a i k * vl (W.getD k none)) n = AW at *
    have t1 := qB.mul r2
    have t2 : Ab (D - vl q) (8 / 100000) := by
      have := ev.sub qA
      rw [show D - (A - vl q * V) - (vl q * (1 + V) - A) = D - vl q from by grind] at this
      exact this.mono (by decide +kernel)
    have t3 := t2.mul (bu i hi)
    have t4 := ((ea.add r1).sub t1).add t3
    rw [show Z - (AX - vl q * AW) + (AX - vl (y.getD i none)) - vl q * (AW - vl (u.getD i none)) + (D - vl q) * vl (u.getD i none) = Z + D * vl (u.getD i none) - vl (y.getD i none) from by grind] at t4
    exact t4.mono (by decide +kernel)
  · have af : i_allFinite_0o (usL q X W) = some (Sum.inl (true, usL q X W)) := by
      unfold i_allFinite_0o
      rw [i_areFinite_eq (fun x hx => (fz x hx).fok) (by omega), List.all_eq_true.2 fun x hx => (fz x hx).fin, obind_eq, bsel_true]
    unfold i_UpdatedSolve
    rw [e1, obind2_eq, bsel_true, e2, obind2_eq, bsel_true, i_DotVectors_eq (fun x hx => (fv x hx).fok) (by omega) (fun x hx => (x1 x hx).fok) (by omega), d1, obind2_eq, bsel_true, i_DotVectors_eq (fun x hx => (fv x hx).fok) (by omega) (fun x hx => (w1 x hx).fok) (by omega), d2, obind2_eq, bsel_true, olet_eq, olet_eq, hden, hq, i_less_eq (by omega) (by omega), obind2_eq, decide_eq_true (by omega), need_true, decide_eq_true rfl, need_true, af, obind_eq, osum_inl, obind2_eq, decide_eq_true (by omega), need_true]
theorem cr_go {n mm : Nat} {a : Nat → Nat → Rat} {near : F} {r6 : List F} (n6 : n ≤ 6) (hmm : mm ≤ n) (ha : ∀ i k, i < n → k < n → Ab (a i k) 8) (fn : Fv near) (hn : vl near ≤ 1) (h6 : r6.length = n * n) : ∀ (m : Nat) (u : List Nat) (R S : List F) (ro co : List Int), u.length + m = mm → Cr n a u R S → ro.length = u.length → co.length = u.length →
    ∃ (u' : List Nat) (R' S' : List F) (X Y : List Int), Cr n a u' R' S' ∧ u'.length = mm ∧ X.length = m ∧ Y.length = m ∧ (0 < m → X.getD 0 0 = ((coBest R / n : Nat) : Int) ∧ Y.getD 0 0 = ((coBest R % n : Nat) : Int)) ∧
      loopM (i_CrossOf_s9 near (mm : Int) (n : Int) (n : Int) r6 (n : Int) (n : Int)) (R, S, ro, co, (u.length : Int)) = some (.inl (S', ro ++ X, co ++ Y))
  | 0, u, R, S, ro, co, hm, h, h1, h2 => by
    refine ⟨u, R, S, [], [], h, by omega, rfl, rfl, fun e => absurd e (Nat.lt_irrefl 0), ?_⟩
    rw [List.append_nil, List.append_nil]
    refine loopM_out ?_
    show i_CrossOf_b9 near (mm : Int) (n : Int) (n : Int) r6 (n : Int) (n : Int) R S ro co (u.length : Int) = _
    unfold i_CrossOf_b9
    rw [decide_eq_false (by omega), bsel_false]
  | m + 1, u, R, S, ro, co, hm, h, h1, h2 => by
    have n0 : 0 < n := by omega
    obtain ⟨r, hr, hru, e1, e2, fp, p3, hC⟩ := cr_step n6 ha h (by omega)
    have inv : CInv n n u.length ((R, S), ro, co) := ⟨⟨h.mR, fun x hx => by
      obtain ⟨i, k, hi, hk, rfl⟩ := mem_gm h.mR hx
      exact (h.fR i k hi hk).fok, h.mS, fun x hx => by
      obtain ⟨i, k, hi, hk, rfl⟩ := mem_gm h.mS hx
      exact (h.fS i k hi hk).fok⟩, h1, h2⟩
    have st := i_CrossOf_step (near := near) (j := u.length) (mm := mm) r6 h6 inv n0 n0 (by omega) (by omega)
    have cs : coStep n n near u.length ((R, S), ro, co) = .next (coTake n n R r r (R.getD (coBest R) none) (R, S), ro ++ [(r : Int)], co ++ [(r : Int)]) := by
      unfold coStep coPick
      obtain ⟨c1, c2, c3⟩ := fv_abs fp
      have z : fle .f32 (fabs32 (R.getD (coBest R) none)) near = false := by
        rw [fv_le c1 fn, decide_eq_false]
        rcases c2 with c2 | c2 <;> grind
      rw [z, cond_false, e1, e2, List.all_eq_true.2 fun x hx => (by
        obtain ⟨i, k, hi, hk, rfl⟩ := mem_gm hC.mS hx
        exact (hC.fS i k hi hk).fin), List.all_eq_true.2 fun x hx => (by
        obtain ⟨i, k, hi, hk, rfl⟩ := mem_gm hC.mR hx
        exact (hC.fR i k hi hk).fin)]
      rfl
    rw [cs] at st
    obtain ⟨u', R', S', X, Y, g1, g2, g3, g4, _, g5⟩ := cr_go n6 hmm ha fn hn h6 m (r :: u) _ _ (ro ++ [(r : Int)]) (co ++ [(r : Int)]) (by simp only [List.length_cons]; omega) hC (by simp [h1]) (by simp [h2])
    refine ⟨u', R', S', (r : Int) :: X, (r : Int) :: Y, g1, g2, by simp [g3], by simp [g4], fun _ => by rw [e1, e2]; exact ⟨rfl, rfl⟩, ?_⟩
    rw [loopM_next (s' := ((coTake n n R r r (R.getD (coBest R) none) (R, S)).1, (coTake n n R r r (R.getD (coBest R) none) (R, S)).2, ro ++ [(r : Int)], co ++ [(r : Int)], ((u.length + 1 : Nat) : Int))) st]
    rw [show (((r :: u).length : Nat) : Int) = ((u.length + 1 : Nat) : Int) from by simp] at g5
    rw [g5, List.append_assoc, List.append_assoc]; rfl
theorem near_fv : Fv (some 981668463) ∧ vl (some 981668463) ≤ 1 ∧ 0 ≤ vl (some 981668463) := by
  have h : Dy .f32 33 8589935 (some 981668463) := dy_fix (by decide) (by decide +kernel) (by decide) (by decide +kernel)
  obtain ⟨h1, h2⟩ := h.fv
  exact ⟨h1, by rw [h2]; decide +kernel, by rw [h2]; decide +kernel⟩
theorem cross_fv {n mm : Nat} {L : List F} (hL : SqM n L) (n0 : 0 < n) (n6 : n ≤ 6) (m1 : 1 ≤ mm) (hmm : mm ≤ n) :
    ∃ (S : List F) (ro co : List Int), i_CrossOf (n : Int) (n : Int) L (some 981668463) (mm : Int) = some ((n : Int), (n : Int), true, S, ro, co) ∧ ro.length = mm ∧ co.length = mm ∧ Mat n n S ∧ (∀ i k, i < n → k < n → Fv (gm none S n i k)) ∧ ro.getD 0 0 = ((coBest L / n : Nat) : Int) ∧ co.getD 0 0 = ((coBest L % n : Nat) : Int) ∧ (mm = n → ∀ i k, i < n → k < n → Ab (vl (gm none S n i k) - vl (gm none L n i k)) (9 / 1000)) := by
  have m := hL.m
  have fL := hL.oks
  have fe : ∀ i k, i < n → k < n → Fv (gm none L n i k) := fun i k hi hk => (sqE_fv (hL.e i k hi hk)).1
  have z : ∀ i k, i < n → k < n → gm none (List.replicate (n * n) (some 0 : F)) n i k = some 0 := fun i k hi hk => by
    unfold gm
    have lt : i * n + k < n * n := Nat.lt_of_lt_of_le (show i * n + k < (i + 1) * n by rw [Nat.succ_mul]; omega) (Nat.mul_le_mul_right n hi)
    rw [List.getD_eq_getElem?_getD, List.getElem?_replicate_of_lt lt]; rfl
  have ha : ∀ i k, i < n → k < n → Ab (vm n L i k) 8 := fun i k hi hk => by
    obtain ⟨_, h1, h2⟩ := sqE_fv (hL.e i k hi hk)
    by_cases e : i = k
    · have := h1 e
      exact ⟨by unfold vm; grind, by unfold vm; grind⟩
    · exact (h2 e).mono (by decide +kernel)
  have C0 : Cr n (vm n L) [] L (List.replicate (n * n) (some 0)) := ⟨m, zmat m.A1 m.C1, fe, fun i k hi hk => by rw [z i k hi hk]; exact fv_zero.1, List.nodup_nil, fun x hx => (by cases hx), fun i k hi hk => by
    unfold vm; rw [z i k hi hk, fv_zero.2]
    exact ⟨by simp; grind, by simp; grind⟩, fun i hi _ => (sqE_fv (hL.e i i hi hi)).2.1 rfl, fun i k hi hk _ _ hne => (sqE_fv (hL.e i k hi hk)).2.2 hne, fun i k _ _ hm => by rcases hm with hm | hm <;> cases hm⟩
  obtain ⟨f1, f2, f3⟩ := near_fv
  obtain ⟨u, R, S, X, Y, g1, g2, g3, g4, g5, g6⟩ := cr_go (mm := mm) (r6 := L) n6 hmm ha f1 f2 m.len mm [] _ _ [] [] (by simp) C0 rfl rfl
  obtain ⟨g7, g8⟩ := g5 (by omega)
  refine ⟨S, X, Y, ?_, g3, g4, g1.mS, g1.fS, g7, g8, fun e i k hi hk => ?_⟩
  · unfold i_CrossOf
    have g6 : loopM (i_CrossOf_s9 (some 981668463) (mm : Int) (n : Int) (n : Int) L (n : Int) (n : Int)) (L, List.replicate (n * n) (some 0), [], [], 0) = some (.inl (S, X, Y)) := g6
    rw [i_ValidMatrix_eq _ _ (fun y hy => (fL y hy).fok) m.le, mat_valid m n0 n0, List.all_eq_true.2 fun y hy => (fL y hy).fin, obind_eq, bsel_true, i_IsFinite_eq f1.fok, f1.fin, obind_eq, bsel_true, fv_lt f1 fv_zero.1, fv_zero.2, decide_eq_false (by grind), bsel_false, i_isSide_eq, obind_eq]
    unfold side
    rw [decide_eq_true (by omega), decide_eq_true (by omega), Bool.and_self, bsel_true, i_Matrix_clone_eq _ _ m.le, obind3_eq, i_newMatrix_eq m.A1 m.C1, obind3_eq, g6, obind_eq, osum_inl]
    rfl
  · have mem : i ∈ u := by
      by_cases e2 : i ∈ u
      · exact e2
      · have := nodup_le (n := n) (u := i :: u) (List.nodup_cons.2 ⟨e2, g1.un⟩) (fun x hx => by
          rcases List.mem_cons.1 hx with rfl | hx
          · exact hi
          · exact g1.ul x hx)
        simp only [List.length_cons] at this
        omega
    have s := g1.sum i k hi hk
    have o := g1.old i k hi hk (.inl mem)
    have := s.sub o
    rw [show vm n S i k + vm n R i k - vm n L i k - vm n R i k = vm n S i k - vm n L i k from by grind] at this
    have len1 : ((u.length : Nat) : Rat) ≤ 6 := by exact_mod_cast (show u.length ≤ 6 by omega)
    have w : wT u.length ≤ 7 / 10000 := (show ∀ j, j < 7 → wT j ≤ 7 / 10000 from by decide +kernel) u.length (by omega)
    exact Ab.mono (show Ab (vl (gm none S n i k) - vl (gm none L n i k)) _ from this) (by grind)
theorem c01 : ∃ q, Rv .f64 q (some 4576918229304087675) ∧ 9999 / 1000000 ≤ q := by
  have h : Dy .f64 1074 (fval .f64 4576918229304087675) (some 4576918229304087675) := ⟨_, rfl, by decide +kernel, by decide +kernel, by decide, by rw [show lpn .f64 - 1074 = 0 from by decide]; simp⟩
  have := Rv.of_dy h
  refine ⟨_, this, ?_⟩
  decide +kernel
theorem gap_01 {x y : F} {p q : Rat} (hx : Rv .f64 p x) (hy : Rv .f64 q y) (h : Ab (p - q) (9985 / 1000000)) : ∃ z, w_b10Gap x y = some z ∧ fle .f64 z (some 4576918229304087675) = true ∧ flt .f64 (some 4576918229304087675) z = false := by
  obtain ⟨z, g, e, g1, g2⟩ := gap_near hx hy h (by decide +kernel)
  obtain ⟨c, c1, c2⟩ := c01
  refine ⟨z, e, ?_, ?_⟩
  · rw [(g1.ord c1).2.1, decide_eq_true]; have := g2.2; grind
  · rw [(c1.ord g1).1, decide_eq_false]; have := g2.2; grind
theorem far_01 {a b : List F} (hl : a.length = b.length) (hs : a.length ≤ 1000000) (h : ∀ i, i < a.length → Fv (a.getD i none) ∧ Fv (b.getD i none) ∧ Ab (vl (a.getD i none) - vl (b.getD i none)) (9 / 1000)) : w_b10Far a b (some 4576918229304087675) = some false := by
  unfold w_b10Far
  rw [hl, decide_eq_true rfl, Bool.not_true, bsel_false]
  have e := (loop_run (step := w_b10Far_s1 a b (some 4576918229304087675)) (fun (i : Nat) (_ : Unit) => (i : Int)) (fun _ u => u) (fun _ => ()) (fun _ _ => True) (lo := 0) (n := a.length) (Nat.zero_le _) (s0 := ()) trivial
    (fun i _ _ hi _ => by
      refine ⟨?_, trivial⟩
      show w_b10Far_b1 a b _ (i : Int) = _
      obtain ⟨f1, f2, f3⟩ := h i hi
      obtain ⟨z, z1, z2, _⟩ := gap_01 f1.rv.widen f2.rv.widen (f3.mono (by decide +kernel))
      unfold w_b10Far_b1
      rw [dlt hi, bsel_true, at?_n none hi, obind_eq, olet_eq, at?_n none (by omega), obind_eq, olet_eq, z1, obind_eq, z2, bsel_true, olet_eq, wsucc (by omega)])
    (fun _ _ => by
      show w_b10Far_b1 a b _ (a.length : Int) = _
      unfold w_b10Far_b1
      rw [dnlt, bsel_false])).1
  have e : loopM (w_b10Far_s1 a b (some 4576918229304087675)) 0 = some (.inl ()) := e
  rw [e]; rfl
theorem farM_01 {A C : Nat} {L M : List F} (m : Mat A C L) (n : Mat A C M) (hC : 0 < C) (h : ∀ i k, i < A → k < C → Fv (gm none L C i k) ∧ Fv (gm none M C i k) ∧ Ab (vl (gm none L C i k) - vl (gm none M C i k)) (9 / 1000)) : w_b10FarMatrix (A : Int) (C : Int) L (A : Int) (C : Int) M (some 4576918229304087675) = some false := by
  unfold w_b10FarMatrix
  rw [decide_eq_true rfl, Bool.not_true, bsel_false, decide_eq_true rfl, Bool.not_true, bsel_false, far_01 (by rw [m.len, n.len]) (by have := m.small; omega) fun i hi => ?_, obind_eq]
  rw [m.len] at hi
  obtain ⟨e1, i1, i2⟩ := gm_flat (L := L) hC hi
  obtain ⟨e2, _, _⟩ := gm_flat (L := M) hC hi
  rw [e1, e2]; exact h _ _ i1 i2
theorem nd_pts {a : List Int} (ha : Byt a) {n : Nat} (n6 : n ≤ 6) : ∀ (m t : Nat) (L : List F) (y : F) (p : Nat → Int) (q : Int), t + m = n → L.length = t → (∀ i, i < t → Dy .f32 2 (p i) (L.getD i none) ∧ (p i).natAbs ≤ 8 + 6 * t) → (∀ i, i + 1 < t → p i + 2 ≤ p (i + 1) ∧ p (i + 1) ≤ p i + 6) → Dy .f32 2 q y → q.natAbs ≤ 8 + 6 * t → (0 < t → p (t - 1) + 2 ≤ q ∧ q ≤ p (t - 1) + 6) →
    ∃ (L' : List F) (p' : Nat → Int), L'.length = n ∧ (∀ i, i < n → Dy .f32 2 (p' i) (L'.getD i none) ∧ (p' i).natAbs ≤ 8 + 6 * n) ∧ (∀ i, i + 1 < n → p' i + 2 ≤ p' (i + 1) ∧ p' (i + 1) ≤ p' i + 6) ∧ loopM (w_FnNodes_s1 a (n : Int)) (L, y, (t : Int)) = some (.inl L')
  | 0, t, L, y, p, q, hm, hL, h1, h2, hy, hq, h3 => by
    have : t = n := by omega
    subst this
    refine ⟨L, p, hL, h1, h2, loopM_out ?_⟩
    show w_FnNodes_b1 a (t : Int) L y (t : Int) = _
    unfold w_FnNodes_b1
    rw [dnlt, bsel_false]
  | m + 1, t, L, y, p, q, hm, hL, h1, h2, hy, hq, h3 => by
    obtain ⟨v, hv, ev⟩ := b10at ha (k := t + 1) (n := 5) (by decide) (by omega)
    have ev : w_b10At a ((t + 1 : Nat) : Int) 5 = some (v : Int) := ev
    have d4 : Dy .f32 2 (2 + (v : Int)) (fop .quo .f32 (fint .f32 (2 + (v : Int))) (some 1082130432)) := quarter_dy (by omega)
    have hd : (2 : Nat) ^ dgn .f32 = 16777216 := by decide
    have dn := hy.add d4 (by omega)
    have st : w_FnNodes_s1 a (n : Int) (L, y, (t : Int)) = some (.next (L ++ [y], fop .add .f32 y (fop .quo .f32 (fint .f32 (2 + (v : Int))) (some 1082130432)), ((t + 1 : Nat) : Int))) := by
      show w_FnNodes_b1 a (n : Int) L y (t : Int) = _
      unfold w_FnNodes_b1
      have ap : apok 4 L.length 1 = true := by simp only [apok, Bool.and_eq_true, decide_eq_true_eq]; omega
      rw [decide_eq_true (by omega), bsel_true, ap, need_true, wsucc (by omega), olet_eq, ev, obind_eq, wi64 (by omega) (by omega), olet_eq, olet_eq, olet_eq, olet_eq, olet_eq]
    obtain ⟨L', p', g1, g2, g3, g4⟩ := nd_pts ha n6 m (t + 1) (L ++ [y]) _ (fun i => if i = t then q else p i) (q + (2 + (v : Int))) (by omega) (by simp [hL]) (fun i hi => by
      by_cases e : i = t
      · subst e
        rw [if_pos rfl, List.getD_eq_getElem?_getD, ← hL, List.getElem?_append_right (Nat.le_refl _), Nat.sub_self]
        exact ⟨hy, by omega⟩
      · rw [if_neg e, List.getD_eq_getElem?_getD, List.getElem?_append_left (by omega), ← List.getD_eq_getElem?_getD]
        obtain ⟨k1, k2⟩ := h1 i (by omega)
        exact ⟨k1, by omega⟩) (fun i hi => by
      rw [if_neg (show i ≠ t by omega)]
      by_cases e : i + 1 = t
      · rw [if_pos e]
        have := h3 (by omega)
        rw [show t - 1 = i from by omega] at this
        exact this
      · rw [if_neg e]; exact h2 i (by omega)) dn (by omega) (fun _ => by
      rw [Nat.add_sub_cancel]
      rw [if_pos rfl]; omega)
    exact ⟨L', p', g1, g2, g3, by rw [loopM_next st, g4]⟩
theorem sixteen_dy : Dy .f32 0 16 (some 1098907648) := by
  have e : fint .f32 16 = some 1098907648 := by decide +kernel
  rw [← e]; exact Dy.int (by decide)
theorem six_div {x : F} (h : Qd x) : Fv (fop .quo .f32 x (some 1098907648)) ∧ Ab (vl (fop .quo .f32 x (some 1098907648))) (1 / 4) := by
  have d := (qd_dy h).scale (t := 4) (by decide)
  have b := qv_le x
  have hd : (2 : Nat) ^ dgn .f32 = 16777216 := by decide
  have r := Dy.quo (s := 6) (t := 0) (q := qv x) (m := 16) d sixteen_dy (by decide) (by omega) (by omega)
  obtain ⟨r1, r2⟩ := r.fv
  refine ⟨r1, ?_⟩
  rw [r2]
  have e : (2 : Rat) ^ (6 - 0) = 64 := by decide +kernel
  rw [e]
  have l1 : ((-16 : Int) : Rat) ≤ ((qv x : Int) : Rat) := by exact_mod_cast (show (-16 : Int) ≤ qv x by omega)
  have l2 : ((qv x : Int) : Rat) ≤ ((16 : Int) : Rat) := by exact_mod_cast (show qv x ≤ (16 : Int) by omega)
  have c1 : ((-16 : Int) : Rat) = -16 := by decide +kernel
  have c2 : ((16 : Int) : Rat) = 16 := by decide +kernel
  rw [c1] at l1
  rw [c2] at l2
  exact ⟨by grind, by grind⟩
def Sx (x : F) : Prop := Fv x ∧ Ab (vl x) (1 / 4)
theorem six_loop {n : Nat} {r : List F} (hr : r.length = n) (n6 : n ≤ 6) : ∀ (m t : Nat) (A B : List F), t + m = n → A.length = n → B.length = n → (∀ i, i < t → Sx (A.getD i none) ∧ Sx (B.getD i none)) → (∀ i, t ≤ i → i < n → Qd (A.getD i none) ∧ Qd (B.getD i none)) →
    ∃ A' B' : List F, A'.length = n ∧ B'.length = n ∧ (∀ i, i < n → Sx (A'.getD i none) ∧ Sx (B'.getD i none)) ∧ loopM (w_FnNodes_s7 r) (A, B, (t : Int)) = some (.inl (A', B'))
  | 0, t, A, B, hm, hA, hB, h1, h2 => by
    have : t = n := by omega
    subst this
    refine ⟨A, B, hA, hB, h1, loopM_out ?_⟩
    show w_FnNodes_b7 r A B (t : Int) = _
    unfold w_FnNodes_b7
    rw [decide_eq_false (by omega), bsel_false]
  | m + 1, t, A, B, hm, hA, hB, h1, h2 => by
    have st : w_FnNodes_s7 r (A, B, (t : Int)) = some (.next (A.set t (fop .quo .f32 (A.getD t none) (some 1098907648)), B.set t (fop .quo .f32 (B.getD t none) (some 1098907648)), ((t + 1 : Nat) : Int))) := by
      show w_FnNodes_b7 r A B (t : Int) = _
      unfold w_FnNodes_b7
      rw [decide_eq_true (by omega), bsel_true, at?_n none (by omega), obind_eq, olet_eq, setAt?_n _ (by omega), obind_eq, at?_n none (by omega), obind_eq, olet_eq, setAt?_n _ (by omega), obind_eq, wsucc (by omega), olet_eq]
    have sg : ∀ (L : List F) (x : F) (i : Nat), L.length = n → t < n → (L.set t x).getD i none = if t = i then x else L.getD i none := fun L x i hl ht => by
      rw [List.getD_eq_getElem?_getD]
      by_cases e : t = i
      · subst e; rw [List.getElem?_set_self (by omega), if_pos rfl]; rfl
      · rw [List.getElem?_set_ne e, if_neg e, ← List.getD_eq_getElem?_getD]
    obtain ⟨q1, q2⟩ := h2 t (Nat.le_refl _) (by omega)
    obtain ⟨A', B', g1, g2, g3, g4⟩ := six_loop hr n6 m (t + 1) (A.set t (fop .quo .f32 (A.getD t none) (some 1098907648))) (B.set t (fop .quo .f32 (B.getD t none) (some 1098907648))) (by omega) (by simp [hA]) (by simp [hB]) (fun i hi => by
      rw [sg A _ i hA (by omega), sg B _ i hB (by omega)]
      by_cases e : t = i
      · rw [if_pos e, if_pos e]; exact ⟨six_div q1, six_div q2⟩
      · rw [if_neg e, if_neg e]; exact h1 i (by omega)) (fun i hi hn => by
      rw [sg A _ i hA (by omega), sg B _ i hB (by omega), if_neg (by omega), if_neg (by omega)]; exact h2 i (by omega) hn)
    exact ⟨A', B', g1, g2, g3, by rw [loopM_next st, g4]⟩
theorem dot64_loop {n : Nat} {v z : List F} (n6 : n ≤ 6) (lv : v.length = n) (lz : z.length = n) (bv : ∀ i, i < n → Sx (v.getD i none)) (bz : ∀ i, i < n → Fv (z.getD i none) ∧ Ab (vl (z.getD i none)) (65 / 10)) : ∀ (m j : Nat) (y : F) (g : Rat), j + m = n → Rv .f64 g y → Ab (g - rs (fun k => vl (v.getD k none) * vl (z.getD k none)) j) ((j : Rat) * (1 / 10000000)) →
    ∃ y' g', loopM (w_FnNodes_s12 v z) (y, (j : Int)) = some (.inl y') ∧ Rv .f64 g' y' ∧ Ab (g' - rs (fun k => vl (v.getD k none) * vl (z.getD k none)) n) (6 / 10000000)
  | 0, j, y, g, hj, hy, hg => by
    have : j = n := by omega
    subst this
    refine ⟨y, g, loopM_out ?_, hy, hg.mono ?_⟩
    · show w_FnNodes_b12 v z y (j : Int) = _
      unfold w_FnNodes_b12
      rw [decide_eq_false (by omega), bsel_false]
    · have : (j : Rat) ≤ 6 := by exact_mod_cast n6
      grind
  | m + 1, j, y, g, hj, hy, hg => by
    have hjn : j < n := by omega
    obtain ⟨f1, b1⟩ := bv j hjn
    obtain ⟨f2, b2⟩ := bz j hjn
    have P := (b1.mul b2).mono (f := 2) (by decide +kernel)
    obtain ⟨w, w1, w2⟩ := f1.rv.widen.mul f2.rv.widen P (big60 (by decide +kernel))
    have e2 : er .f64 2 ≤ 1 / 1000000000 := e64_le (by decide +kernel) (by decide +kernel)
    have hj6 : (j : Rat) ≤ 6 := by exact_mod_cast (show j ≤ 6 by omega)
    have hj0 : (0 : Rat) ≤ (j : Rat) := by exact_mod_cast Nat.zero_le j
    have S := rs_ab (n := j) (f := fun k => vl (v.getD k none) * vl (z.getD k none)) (e := 2) fun k hk => ((bv k (by omega)).2.mul (bz k (by omega)).2).mono (by decide +kernel)
    have gw : Ab (g + w) 20 := by
      have := (hg.add S).add ((w2.mono e2).add P)
      rw [show g - rs (fun k => vl (v.getD k none) * vl (z.getD k none)) j + rs (fun k => vl (v.getD k none) * vl (z.getD k none)) j + (w - vl (v.getD j none) * vl (z.getD j none) + vl (v.getD j none) * vl (z.getD j none)) = g + w from by grind] at this
      exact this.mono (by grind)
    obtain ⟨s, s1, s2⟩ := hy.add w1 gw (big60 (by decide +kernel))
    have e20 : er .f64 20 ≤ 1 / 1000000000 := e64_le (by decide +kernel) (by decide +kernel)
    have st : w_FnNodes_s12 v z (y, (j : Int)) = some (.next (fop .add .f64 y (fop .mul .f64 (fwiden (v.getD j none)) (fwiden (z.getD j none))), ((j + 1 : Nat) : Int))) := by
      show w_FnNodes_b12 v z y (j : Int) = _
      unfold w_FnNodes_b12
      rw [decide_eq_true (by omega), bsel_true, at?_n none (by omega), obind_eq, olet_eq, at?_n none (by omega), obind_eq, olet_eq, olet_eq, olet_eq, wsucc (by omega), olet_eq]
    obtain ⟨y', g', k1, k2, k3⟩ := dot64_loop n6 lv lz bv bz m (j + 1) _ s (by omega) s1 (by
      have := ((s2.mono e20).add (w2.mono e2)).add hg
      rw [show s - (g + w) + (w - vl (v.getD j none) * vl (z.getD j none)) + (g - rs (fun k => vl (v.getD k none) * vl (z.getD k none)) j) = s - (rs (fun k => vl (v.getD k none) * vl (z.getD k none)) j + vl (v.getD j none) * vl (z.getD j none)) from by grind] at this
      exact Ab.mono (show Ab (s - rs (fun k => vl (v.getD k none) * vl (z.getD k none)) (j + 1)) _ from this) (by push_cast; grind))
    exact ⟨y', g', by rw [loopM_next st, k1], k2, k3⟩
theorem nodes_near {n : Nat} {x y d : List F} {p : Nat → Int} (h : Pts n x p) (ly : y.length = n) (qy : ∀ z ∈ y, Qd z) (ld : d.length = n) (hd : ∀ j, j < n → d.getD j none = ft x y j j) : loopM (w_FnNodes_s6 x y d) 0 = some (.inl ()) := by
  have n6 := h.n6
  have lx := h.l
  refine loop_go (step := w_FnNodes_s6 x y d) (fun j : Nat => (j : Int)) n 0 (fun k _ hk => ?_) ?_
  · have hk : k < n := by omega
    obtain ⟨z, z1, z2, z3⟩ := newton_fv h ly qy ld hd hk
    obtain ⟨g, g1, _, g3⟩ := gap_01 z1.rv.widen (qd_fv (qy _ (getD_mem (show k < y.length by omega)))).1.rv.widen (z2.mono (by decide +kernel))
    show w_FnNodes_b6 x y d (k : Int) = _
    unfold w_FnNodes_b6
    rw [decide_eq_true (by omega), bsel_true, at?_n none (by omega), obind_eq, z3, obind2_eq, bsel_true, olet_eq, at?_n none (by omega), obind_eq, olet_eq, g1, obind_eq, g3, bsel_false, wsucc (by omega), olet_eq]
  · show w_FnNodes_b6 x y d ((0 + n : Nat) : Int) = _
    unfold w_FnNodes_b6
    rw [decide_eq_false (by omega), bsel_false]
theorem nodes_last {n : Nat} {y u P : List F} {w : F} {g : Rat} (n6 : n ≤ 6) (ly : y.length = n) (lu : u.length = n) (lP : P.length = n) (fy : ∀ i, i < n → Fv (y.getD i none)) (bu : ∀ i, i < n → Sx (u.getD i none)) (hw : Rv .f64 g w) (bg : Ab g 10) (bP : ∀ i, i < n → Fv (P.getD i none) ∧ Ab (vl (P.getD i none)) 1000) (near : ∀ i, i < n → Ab (vl (P.getD i none) + g * vl (u.getD i none) - vl (y.getD i none)) (9 / 1000)) :
    loopM (w_FnNodes_s17 y u w P) 0 = some (.inl ()) := by
  refine loop_go (step := w_FnNodes_s17 y u w P) (fun j : Nat => (j : Int)) n 0 (fun k _ hk => ?_) ?_
  · have hk : k < n := by omega
    obtain ⟨u1, u2⟩ := bu k hk
    obtain ⟨p1, p2⟩ := bP k hk
    have M := (bg.mul u2).mono (f := 3) (by decide +kernel)
    obtain ⟨m, m1, m2⟩ := hw.mul u1.rv.widen M (big60 (by decide +kernel))
    have e3 : er .f64 3 ≤ 1 / 1000000000 := e64_le (by decide +kernel) (by decide +kernel)
    have S : Ab (vl (P.getD k none) + m) 1004 := by
      have := (p2.add (m2.mono e3)).add M
      rw [show vl (P.getD k none) + (m - g * vl (u.getD k none)) + g * vl (u.getD k none) = vl (P.getD k none) + m from by grind] at this
      exact this.mono (by decide +kernel)
    obtain ⟨s, s1, s2⟩ := p1.rv.widen.add m1 S (big60 (by decide +kernel))
    have e4 : er .f64 1004 ≤ 1 / 1000000000 := e64_le (by decide +kernel) (by decide +kernel)
    have t := ((s2.mono e4).add (m2.mono e3)).add (near k hk)
    rw [show s - (vl (P.getD k none) + m) + (m - g * vl (u.getD k none)) + (vl (P.getD k none) + g * vl (u.getD k none) - vl (y.getD k none)) = s - vl (y.getD k none) from by grind] at t
    obtain ⟨z, g1, _, g3⟩ := gap_01 s1 (fy k hk).rv.widen (t.mono (by decide +kernel))
    show w_FnNodes_b17 y u w P (k : Int) = _
    unfold w_FnNodes_b17
    rw [decide_eq_true (by omega), bsel_true, at?_n none (by omega), obind_eq, olet_eq, at?_n none (by omega), obind_eq, olet_eq, olet_eq, olet_eq, at?_n none (by omega), obind_eq, olet_eq, g1, obind_eq, g3, bsel_false, wsucc (by omega), olet_eq]
  · show w_FnNodes_b17 y u w P ((0 + n : Nat) : Int) = _
    unfold w_FnNodes_b17
    rw [decide_eq_false (by omega), bsel_false]
theorem times_six {n : Nat} {L z : List F} (h : SqM n L) (n6 : n ≤ 6) (bz : ∀ i, i < n → Fv (z.getD i none) ∧ Ab (vl (z.getD i none)) (65 / 10)) {i : Nat} (hi : i < n) : Fv (dotN (fun k => gm none L n i k) (fun k => z.getD k none) n) ∧ Ab (vl (dotN (fun k => gm none L n i k) (fun k => z.getD k none) n) - rs (fun k => vl (gm none L n i k) * vl (z.getD k none)) n) (3 / 10000) ∧ Ab (rs (fun k => vl (gm none L n i k) * vl (z.getD k none)) n) 312 := by
  have pr : ∀ j, j < n → Ab (vl (gm none L n i j) * vl (z.getD j none)) 52 := fun j hj => by
    obtain ⟨_, h1, h2⟩ := sqE_fv (h.e i j hi hj)
    have : Ab (vl (gm none L n i j)) 8 := by
      by_cases e : i = j
      · have := h1 e
        exact ⟨by grind, by grind⟩
      · exact (h2 e).mono (by decide +kernel)
    exact (this.mul (bz j hj).2).mono (by decide +kernel)
  have hS : ∀ j, j ≤ n → Ab (rs (fun t => vl (gm none L n i t) * vl (z.getD t none)) j) 312 := fun j hj => by
    have h := rs_ab (n := j) (f := fun t => vl (gm none L n i t) * vl (z.getD t none)) (e := 52) fun t ht => pr t (by omega)
    have h1 : (j : Rat) ≤ 6 := by exact_mod_cast (show j ≤ 6 by omega)
    exact h.mono (by grind)
  obtain ⟨d1, d2⟩ := dotN_near (f := fun k => gm none L n i k) (g := fun k => z.getD k none) (P := 52) (S := 312) (e := 5 / 100000) (n := n) (by omega) (fun j hj => ⟨(sqE_fv (h.e i j hi hj)).1, (bz j hj).1, pr j hj⟩) hS (by decide +kernel) (by decide +kernel) (by decide +kernel) (by decide +kernel) (by decide +kernel)
  have h1 : (n : Rat) ≤ 6 := by exact_mod_cast n6
  exact ⟨d1, d2.mono (by grind), hS n (Nat.le_refl _)⟩
theorem nodes_cross {n : Nat} {L : List F} (hL : SqM n L) (n0 : 0 < n) (n6 : n ≤ 6) : w_FnNodes_k17 (n : Int) (n : Int) (n : Int) L = some true := by
  obtain ⟨S, ro, co, e1, r1, c1, m1, f1, g1, h1, near⟩ := cross_fv hL n0 n6 (mm := n) (by omega) (Nat.le_refl _)
  obtain ⟨S2, ro2, co2, e2, r2, c2, m2, f2, g2, h2, _⟩ := cross_fv hL n0 n6 (mm := 1) (by omega) (by omega)
  have e2 : i_CrossOf (n : Int) (n : Int) L (some 981668463) 1 = _ := e2
  have sv : s_ValidMatrix (n : Int) (n : Int) S2 = some true := by
    have fS : ∀ x ∈ S2, Fv x := fun x hx => by
      obtain ⟨i, k, hi, hk, rfl⟩ := mem_gm m2 hx
      exact f2 i k hi hk
    unfold s_ValidMatrix
    rw [s_l02Is_eq _ _ (fun y hy => (fS y hy).fok) m2.le, mat_valid m2 n0 n0, show S2.all fin32 = true from List.all_eq_true.2 fun y hy => (fS y hy).fin, obind_eq]
  have a0 : ∀ {l : List Int}, 0 < l.length → at? l 0 = some (l.getD 0 0) := fun hl => at?_n (i := 0) 0 hl
  unfold w_FnNodes_k17 w_FnNodes_k21
  rw [e1, obind6_eq, e2, obind6_eq, bsel_true, bsel_true, farM_01 m1 hL.m n0 (fun i k hi hk => ⟨f1 i k hi hk, (sqE_fv (hL.e i k hi hk)).1, near rfl i k hi hk⟩), obind_eq, bsel_false, decide_eq_true (by omega), bsel_true, decide_eq_true (by omega), bsel_true, decide_eq_true (by omega), bsel_true, decide_eq_true (by omega), bsel_true,
    a0 (by omega), obind_eq, a0 (by omega), obind_eq, g1, g2, decide_eq_true rfl, bsel_true, a0 (by omega), obind_eq, a0 (by omega), obind_eq, h1, h2, decide_eq_true rfl, bsel_true, sv, obind_eq, bsel_true, decide_eq_true rfl]
theorem w_FnNodes_true (a0 a1 : List Int) (t0 : Small a0) (t1 : Small a1) (g0 : ∀ z ∈ a0, (Lit.int .u8 z).wf = true) (g1 : ∀ z ∈ a1, (Lit.int .u8 z).wf = true) : w_FnNodes a0 a1 = some true := by
  have b0 := byt_of g0
  have b1 := byt_of g1
  unfold w_FnNodes
  obtain ⟨r, hr⟩ := b10long (a := a0) (b := a1)
  rw [hr, obind_eq]
  cases r with
  | true => rw [bsel_true]
  | false =>
    rw [bsel_false]
    obtain ⟨v, hv, ev⟩ := b10at b1 (k := 0) (n := 6) (by decide) (by decide)
    have ev : w_b10At a1 0 6 = some (v : Int) := ev
    obtain ⟨q, hq, eq⟩ := b10at b0 (k := 0) (n := 9) (by decide) (by decide)
    have eq : w_b10At a0 0 9 = some (q : Int) := eq
    rw [ev, obind_eq, wi64 (by omega) (by omega), olet_eq, eq, obind_eq, wi64 (by omega) (by omega), olet_eq, olet_eq, olet_eq, show (1 : Int) + (v : Int) = ((1 + v : Nat) : Int) from by omega]
    generalize hn : 1 + v = n
    have n0 : 0 < n := by omega
    have n6 : n ≤ 6 := by omega
    have hd : (2 : Nat) ^ dgn .f32 = 16777216 := by decide
    have d0 : Dy .f32 2 (2 * ((q : Int) - 4)) (fop .quo .f32 (fint .f32 ((q : Int) - 4)) (some 1073741824)) := by
      have h1 : Dy .f32 0 ((q : Int) - 4) (fint .f32 ((q : Int) - 4)) := Dy.int (by omega)
      have h2 := h1.scale (t := 2) (by decide)
      rw [show ((q : Int) - 4) * ((2 ^ 2 : Nat) : Int) = 2 * ((q : Int) - 4) * 2 from by omega] at h2
      exact Dy.quo (s := 2) (t := 0) h2 two_dy (by decide) (by omega) (by omega)
    obtain ⟨x, p, lx, px, sx, ex⟩ := nd_pts b0 n6 n 0 [] _ (fun _ => 0) _ (by omega) rfl (fun i hi => absurd hi (Nat.not_lt_zero i)) (fun i hi => absurd hi (Nat.not_lt_zero _)) d0 (by omega) (fun h => absurd h (Nat.lt_irrefl 0))
    have ex : loopM (w_FnNodes_s1 a0 (n : Int)) ([], fop .quo .f32 (fint .f32 ((q : Int) - 4)) (some 1073741824), 0) = some (.inl x) := ex
    have hP : Pts n x p := ⟨n6, n0, lx, fun i hi => (px i hi).1, fun i hi => by have := (px i hi).2; omega, sx⟩
    obtain ⟨y, ly, qy, ey⟩ := b10vector b1 (n := n) (by omega)
    obtain ⟨d, ld, hdd, ed⟩ := divided_fv hP ly qy
    have fy : ∀ i, i < n → Fv (y.getD i none) ∧ Ab (vl (y.getD i none)) 4 := fun i hi => qd_fv (qy _ (getD_mem (by omega)))
    rw [ex, obind_eq, osum_inl]
    unfold w_FnNodes_k1
    have ed0 : d.getD 0 none = y.getD 0 none := hdd 0 n0
    have z0 : ∀ {l : List F}, 0 < l.length → at? l 0 = some (l.getD 0 none) := fun hl => at?_n (i := 0) none hl
    rw [ey, obind_eq, ed, obind2_eq, bsel_true, decide_eq_true (by omega), Bool.not_true, bsel_false, z0 (by omega), obind_eq, z0 (by omega), obind_eq, ed0, fv_eq (fy 0 n0).1 (fy 0 n0).1, decide_eq_true rfl, Bool.not_true, bsel_false]
    unfold w_FnNodes_k5
    rw [nodes_near hP ly qy ld hdd, obind_eq, osum_inl]
    unfold w_FnNodes_k6
    obtain ⟨L, hL, eL⟩ := b10square b0 (n := n) (by omega)
    obtain ⟨A, lA, qA, eA⟩ := b10vector b1 (n := n) (by omega)
    obtain ⟨B, lB, qB, eB⟩ := b10vector b0 (n := n) (by omega)
    obtain ⟨U, V, lU, lV, bUV, eUV⟩ := six_loop (r := A) lA n6 n 0 A B (by omega) lA lB (fun i hi => absurd hi (Nat.not_lt_zero i)) (fun i _ hi => ⟨qA _ (getD_mem (by omega)), qB _ (getD_mem (by omega))⟩)
    have eUV : loopM (w_FnNodes_s7 A) (A, B, 0) = some (.inl (U, V)) := eUV
    rw [eL, obind3_eq, eA, obind_eq, eB, obind_eq, eUV, obind_eq, osum_inl]
    unfold w_FnNodes_k7
    have fe : ∀ i k, i < n → k < n → Fv (gm none L n i k) := fun i k hi hk => (sqE_fv (hL.e i k hi hk)).1
    have T : PTab n (fun i k => vl (gm none L n i k)) := ⟨n6, fun i k hi hk hne => (sqE_fv (hL.e i k hi hk)).2.2 hne, fun i hi => (sqE_fv (hL.e i i hi hi)).2.1 rfl⟩
    obtain ⟨M, hM, eM⟩ := s_FactorRows_lup T n0 hL.m fe (fun i j _ _ => rfl)
    have H := tp_facts T hM
    have all : ∀ {l : List F}, l.length = n → (∀ i, i < n → Fv (l.getD i none)) → ∀ x ∈ l, Fv x := fun hl hf x hx => by
      obtain ⟨i, hi, rfl⟩ := mem_getD hx
      exact hf i (by omega)
    obtain ⟨z, lz, fz, bz, rz, ez⟩ := upd_fv H T n0 lU lV ly (all lU fun i hi => (bUV i hi).1.1) (all lV fun i hi => (bUV i hi).2.1) (all ly fun i hi => (fy i hi).1) (fun i hi => (bUV i hi).1.2) (fun i hi => (bUV i hi).2.2) (fun i hi => (fy i hi).2)
    rw [eM, obind5_eq, ez, obind2_eq, bsel_true, bsel_true, decide_eq_true (by omega), Bool.not_true, bsel_false]
    unfold w_FnNodes_k11
    have zz : ∀ i, i < n → Fv (z.getD i none) ∧ Ab (vl (z.getD i none)) (65 / 10) := fun i hi => ⟨fz _ (getD_mem (by omega)), bz i hi⟩
    have zr : Rv .f64 0 (some 0) := by
      have := Rv.of_dy (Dy.zero .f64 (s := 0) (by decide))
      rw [show ((0 : Int) : Rat) / 2 ^ 0 = 0 from by decide +kernel] at this; exact this
    obtain ⟨w, g, w1, w2, w3⟩ := dot64_loop n6 lV lz (fun i hi => (bUV i hi).2) zz n 0 (some 0) 0 (by omega) zr (by show Ab (0 - 0) ((0 : Nat) * (1 / 10000000)); exact ⟨by simp; grind, by simp; grind⟩)
    have w1 : loopM (w_FnNodes_s12 V z) (some 0, 0) = some (.inl w) := w1
    rw [w1, obind_eq, osum_inl]
    unfold w_FnNodes_k12
    rw [s_TimesVector_fv hL.m n0 n0 hL.oks lz fz fun i hi => (times_six hL n6 zz hi).1, obind2_eq, bsel_true, decide_eq_true (by simp), Bool.not_true, bsel_false]
    unfold w_FnNodes_k16
    have list_at : ∀ (i : Nat), i < n → (((List.range n).map fun i => dotN (fun k => gm none L n i k) (fun k => z.getD k none) n).getD i none) = dotN (fun k => gm none L n i k) (fun k => z.getD k none) n := fun i hi => by
      rw [List.getD_eq_getElem?_getD, List.getElem?_map, List.getElem?_range hi]; rfl
    have vz : Ab (rs (fun k => vl (V.getD k none) * vl (z.getD k none)) n) 9999 := (rs_ab fun k hk => ((bUV k hk).2.2.mul (zz k hk).2).mono (f := 99 / 60) (by decide +kernel)).mono (by
      have : (n : Rat) ≤ 6 := by exact_mod_cast n6
      grind)
    have vz : Ab (rs (fun k => vl (V.getD k none) * vl (z.getD k none)) n) (99 / 10) := (rs_ab fun k hk => ((bUV k hk).2.2.mul (zz k hk).2).mono (f := 99 / 60) (by decide +kernel)).mono (by
      have : (n : Rat) ≤ 6 := by exact_mod_cast n6
      grind)
    rw [nodes_last (g := g) n6 ly lU (by simp) (fun i hi => (fy i hi).1) (fun i hi => (bUV i hi).1) w2 (by
      have := w3.add vz
      rw [show g - rs (fun k => vl (V.getD k none) * vl (z.getD k none)) n + rs (fun k => vl (V.getD k none) * vl (z.getD k none)) n = g from by grind] at this
      exact this.mono (by decide +kernel)) (fun i hi => by
      rw [list_at i hi]
      obtain ⟨t1, t2, t3⟩ := times_six hL n6 zz hi
      refine ⟨t1, ?_⟩
      have := t2.add t3
      rw [show vl (dotN (fun k => gm none L n i k) (fun k => z.getD k none) n) - rs (fun k => vl (gm none L n i k) * vl (z.getD k none)) n + rs (fun k => vl (gm none L n i k) * vl (z.getD k none)) n = vl (dotN (fun k => gm none L n i k) (fun k => z.getD k none) n) from by grind] at this
      exact this.mono (by decide +kernel)) (fun i hi => by
      rw [list_at i hi]
      obtain ⟨t1, t2, t3⟩ := times_six hL n6 zz hi
      have a1 := w3.mul (bUV i hi).1.2
      have a2 := (t2.add a1).add (rz i hi)
      generalize vl (dotN (fun k => gm none L n i k) (fun k => z.getD k none) n) = q1 at *
      generalize rs (fun k => vl (gm none L n i k) * vl (z.getD k none)) n = q2 at *
      generalize rs (fun k => vl (V.getD k none) * vl (z.getD k none)) n = q3 at *
      rw [show q1 - q2 + (g - q3) * vl (U.getD i none) + (q2 + q3 * vl (U.getD i none) - vl (y.getD i none)) = q1 + g * vl (U.getD i none) - vl (y.getD i none) from by grind] at a2
      exact a2.mono (by decide +kernel)), obind_eq, osum_inl]
    exact nodes_cross hL n0 n6


end Go.Proofs.YtkdociaoknmgbaaGreat
