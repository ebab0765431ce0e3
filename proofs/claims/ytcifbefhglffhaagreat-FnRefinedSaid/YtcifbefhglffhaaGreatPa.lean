/- The plain law of FnRefined. -/
import Derived.Test.YtcifbefhglffhaaGreatG2
namespace Go.Proofs.YtcifbefhglffhaaGreat
set_option linter.unusedSimpArgs false
set_option linter.unusedVariables false
open Go Go.AM
def Small {α : Type} (l : List α) : Prop := l.length ≤ 9223372036854775807
def FOks (l : List F) : Prop := ∀ c ∈ l, FOk .f32 c
theorem FOks.at {l : List F} (h : FOks l) {i : Nat} {c : F} (e : l[i]? = some c) : FOk .f32 c := h c (List.mem_of_getElem? e)
theorem K2d_eq (n lo hi : Int) : K2d n lo hi = some (decide (lo ≤ n) && decide (n ≤ hi)) := by
  unfold K2d; cases decide (lo ≤ n) <;> rfl
theorem K08_eq (n lo hi : Int) : K08 n lo hi = some (decide (lo ≤ n) && decide (n ≤ hi)) := by
  unfold K08; cases decide (lo ≤ n) <;> rfl
theorem K2h_eq {c : F} (h : FOk .f32 c) : K2h c = some (fin32 c) := by
  unfold K2h; rw [olet_eq, sub_self h]
theorem K2i_eq {a : List F} (ha : FOks a) (sa : a.length ≤ 1048576) : K2i a = some (a.all fin32) := by
  unfold K2i
  rw [loop_all (l := a) (p := fin32) false ?_ ?_]
  · cases h : a.all fin32 <;> simp [K2i_k1]
  · intro v x h0 hv hx
    show K2i_b1 a v = _
    unfold K2i_b1
    rw [at?_of h0 hx, wrap_succ h0 hv (by omega)]
    simp [bsel_if, hv, K2h_eq (ha.at hx)]
  · show K2i_b1 a (a.length : Int) = _
    unfold K2i_b1
    simp [bsel_if]
theorem K0f_eq {c : F} (h : FOk .f32 c) : K0f c = some (fin32 c) := by
  unfold K0f K0e K0b K0d K0c K0d_k1
  cases c with
  | none => simp [fwiden, fin32]
  | some b =>
    have hw := feq_refl (k := .f64) (b := FloatKind.f64.encode (FloatKind.f32.decode b)) (fwiden_ok h)
    have hw' : feq .f64 (fwiden (some b)) (fwiden (some b)) = true := hw
    have hm := fabs_max h (by simp)
    simp only [olet_eq, obind_eq, hw', Bool.not_true, bsel_false, decide_true, bsel_true, hm, Bool.not_not]
theorem K0g_eq {c : F} (h : FOk .f32 c) : K0g c = some (!fin32 c) := by
  unfold K0g; rw [K0f_eq h]; rfl
theorem any_not {α : Type} (l : List α) (p : α → Bool) : l.any (fun x => !p x) = !l.all p := by
  induction l with
  | nil => rfl
  | cons a l ih => simp [ih]
theorem K0j_eq {a : List F} (ha : FOks a) (sa : a.length ≤ 1048576) : K0j a = some (a.all fin32) := by
  unfold K0j K0i K0h
  obtain ⟨r, h1, h2⟩ := loop_find (l := a) (p := fun c => !fin32 c) (step := K0h_s1 a) (by
    intro v x h0 hv hx
    show K0h_b1 a v = _
    unfold K0h_b1
    rw [at?_of h0 hx, wrap_succ h0 hv (by omega)]
    simp [bsel_if, hv, K0g_eq (ha.at hx)]) (by
    show K0h_b1 a (a.length : Int) = _
    unfold K0h_b1
    simp [bsel_if])
  rw [h1, any_not]
  cases h : a.all fin32 <;> simp [K0h_k1, h2]
abbrev q1 : List F := [some 1073741824, some 1065353216, some 1065353216, some 1073741824]
abbrev q2 : List F := [some 1065353216, some 0]
abbrev q3 : List F := [some 1073741824, some 1073741824]
abbrev q4 : List F := [some 1065353216]
abbrev q5 : List Int := [2, 4, 6, 8]
theorem small_mul {x y : Nat} (hx : x ≤ 12) (hy : y ≤ 12) : x * y ≤ 144 := Nat.mul_le_mul hx hy
theorem div_at {i k c : Nat} (hk : k < c) : (i * c + k) / c = i ∧ (i * c + k) % c = k := by
  have hc : 0 < c := by omega
  constructor
  · rw [Nat.mul_comm, Nat.mul_add_div hc, Nat.div_eq_of_lt hk, Nat.add_zero]
  · rw [Nat.mul_comm, Nat.mul_add_mod, Nat.mod_eq_of_lt hk]
def side (n : Int) : Bool := decide (1 ≤ n) && decide (n ≤ 12)
theorem K2g_eq (x y : Int) : K2g x y = some (side x && side y) := by
  unfold K2g; rw [K2d_eq, K2d_eq]; unfold side
  cases decide (1 ≤ x) <;> cases decide (x ≤ 12) <;> rfl
theorem K09_eq (x : Int) : K09 x = some (side x) := by
  unfold K09; rw [K08_eq]; rfl
def validM (a0 a1 : Int) (a2 : List F) : Bool := side a0 && side a1 && decide ((a2.length : Int) = IntKind.i64.wrap (a0 * a1)) && a2.all fin32
theorem K2j_eq (a0 a1 : Int) {a2 : List F} (g2 : FOks a2) (s2 : a2.length ≤ 1048576) : K2j a0 a1 a2 = some (validM a0 a1 a2) := by
  unfold K2j validM
  rw [K2g_eq, K2i_eq g2 s2]
  cases side a0 <;> cases side a1 <;> simp [bsel_if] <;> split <;> simp_all
theorem K0k_eq (a0 a1 : Int) {a2 : List F} (g2 : FOks a2) (s2 : a2.length ≤ 1048576) : K0k a0 a1 a2 = some (validM a0 a1 a2) := by
  unfold K0k K0a validM
  rw [K09_eq, K09_eq, K0j_eq g2 s2]
  cases side a0 <;> cases side a1 <;> simp [bsel_if] <;> split <;> simp_all
theorem side_nat {n : Int} (h : side n = true) : ∃ m : Nat, n = (m : Int) ∧ 0 < m ∧ m ≤ 12 := by
  simp [side] at h
  exact ⟨n.toNat, by omega, by omega, by omega⟩
theorem FOks.getD {l : List F} (h : FOks l) (n : Nat) : FOk .f32 (l.getD n none) := by
  simp only [List.getD]
  cases e : l[n]? with
  | none => exact fok_none _
  | some c => exact h.at e
theorem FOks.set {l : List F} (h : FOks l) {n : Nat} {x : F} (hx : FOk .f32 x) : FOks (l.set n x) := by
  intro c hc
  rcases List.mem_or_eq_of_mem_set hc with h1 | h1
  · exact h c h1
  · exact h1 ▸ hx
theorem wsucc {i : Nat} (h : i ≤ 1000000000) : IntKind.i64.wrap ((i : Int) + 1) = ((i + 1 : Nat) : Int) := by
  rw [wrap_i64 (by omega) (by omega)]; omega
theorem dlt {i n : Nat} (h : i < n) : decide ((i : Int) < (n : Int)) = true := by simp; omega
theorem dnlt {n : Nat} : decide ((n : Int) < (n : Int)) = false := by simp
theorem K0p_eq {A C i k : Nat} {L : List F} (r : Int) (h : Mat A C L) (hi : i < A) (hk : k < C) : K0p r (C : Int) L (i : Int) (k : Int) = some (gm none L C i k) := by
  obtain ⟨e1, e2⟩ := idx_w h.A1 h.C1 hi hk
  unfold K0p
  rw [e1, olet_eq, e2, olet_eq, at?_n none (h.lt hi hk), obind_eq]
theorem K2l_eq {A C i k : Nat} {L : List F} (r : Int) (h : Mat A C L) (hi : i < A) (hk : k < C) : K2l r (C : Int) L (i : Int) (k : Int) = some (gm none L C i k) := by
  obtain ⟨e1, e2⟩ := idx_w h.A1 h.C1 hi hk
  unfold K2l
  rw [e1, olet_eq, e2, olet_eq, at?_n none (h.lt hi hk), obind_eq]
theorem K0r_eq {A C i k : Nat} {L : List F} (r : Int) (h : Mat A C L) (hi : i < A) (hk : k < C) (x : F) : K0r r (C : Int) (i : Int) (k : Int) x L = some (sm L C i k x) := by
  obtain ⟨e1, e2⟩ := idx_w h.A1 h.C1 hi hk
  unfold K0r
  rw [e1, olet_eq, e2, olet_eq, setAt?_n x (h.lt hi hk), obind_eq]
theorem K0q_eq {c : F} (h : FOk .f32 c) : K0q c = some (fabs32 c) := by
  unfold K0q K0c
  rw [olet_eq, olet_eq, obind_eq, abs_narrow h, obind_eq]
theorem K0u_eq (a b : F) : K0u a b = some (fop .mul .f32 a b) := rfl
def findP (C k : Nat) (L : List F) (r b : Nat) : Nat := if flt .f32 (fabs32 (gm none L C b k)) (fabs32 (gm none L C r k)) = true then r else b
theorem K0w_find {n k : Nat} {L : List F} (g : FOks L) (h : Mat n n L) (hk : k < n) : loopM (K0w_s8 (n : Int) (n : Int) (n : Int) L (k : Int)) ((k : Int), (k : Int)) = some (.inl ((run (findP n k L) (k + 1) (n - (k + 1)) k : Nat) : Int)) := by
  have hn := h.A1
  obtain ⟨e, _⟩ := loop_run (step := K0w_s8 (n : Int) (n : Int) (n : Int) L (k : Int)) (fun (i b : Nat) => ((b : Int), (i : Int))) (findP n k L) (fun (b : Nat) => (b : Int)) (fun (_ b : Nat) => b < n) (lo := k) (n := n) (Nat.le_of_lt hk) (s0 := k) hk
    (fun i b h1 h2 h4 => by
      refine ⟨?_, ?_⟩
      · show K0w_b8 _ _ _ _ _ _ _ = _
        unfold K0w_b8
        rw [dlt h2, bsel_true, K0p_eq _ h h2 hk, obind_eq, K0q_eq (g.getD _), obind_eq, K0p_eq _ h h4 hk, obind_eq, K0q_eq (g.getD _), obind_eq]
        unfold K0w_k7
        rw [wsucc (by omega)]
        unfold findP
        cases flt .f32 (fabs32 (gm none L n b k)) (fabs32 (gm none L n i k)) <;> rfl
      · unfold findP; split <;> omega)
    (fun b _ => by
      show K0w_b8 _ _ _ _ _ _ _ = _
      unfold K0w_b8
      rw [dnlt, bsel_false])
  rw [e, show n - k = (n - (k + 1)) + 1 by omega, run_succ]
  have : findP n k L k k = k := by unfold findP; split <;> rfl
  rw [this]
def swapP {α : Type} (d : α) (C i j c : Nat) (L : List α) : List α := sm (sm L C i c (gm d L C j c)) C j c (gm d L C i c)
theorem swapP_mat {α : Type} {d : α} {A C i j c : Nat} {L : List α} (h : Mat A C L) : Mat A C (swapP d C i j c L) := (h.set _ _ _).set _ _ _
theorem swapP_oks {C i j c : Nat} {L : List F} (h : FOks L) : FOks (swapP none C i j c L) := (h.set (h.getD _)).set (h.getD _)
theorem swapP_comm {α : Type} {d : α} {A C i j c : Nat} {L : List α} (h : Mat A C L) (hi : i < A) (hj : j < A) (hc : c < C) : swapP d C i j c L = swapP d C j i c L := by
  unfold swapP
  by_cases e : i = j
  · subst e; rfl
  · have hne : i * C + c ≠ j * C + c := fun e2 => e (idx_eq hc hc e2).1
    exact List.set_comm _ _ hne
def swapR {α : Type} (d : α) (C i j : Nat) (L : List α) : List α := run (swapP d C i j) 0 C L
theorem swapR_mat {α : Type} {d : α} {A C i j : Nat} {L : List α} (h : Mat A C L) : Mat A C (swapR d C i j L) := run_inv (fun _ L => Mat A C L) C 0 L h fun _ _ _ _ h => swapP_mat h
theorem swapR_oks {C i j : Nat} {L : List F} (h : FOks L) : FOks (swapR none C i j L) := run_inv (fun _ L => FOks L) C 0 L h fun _ _ _ _ h => swapP_oks h
theorem swapR_comm {α : Type} {d : α} {A C i j : Nat} {L : List α} (h : Mat A C L) (hi : i < A) (hj : j < A) : swapR d C i j L = swapR d C j i L :=
  run_congr (fun _ L => Mat A C L) C 0 L h fun c L _ hc hL => ⟨swapP_comm hL hi hj (by omega), swapP_mat hL⟩
theorem getD_of_lt {α : Type} {l : List α} {n : Nat} (d : α) (h : n < l.length) : l[n]? = some (l.getD n d) := by simp [List.getD, h]
theorem K0s_eq {A C i j : Nat} {L : List F} (h : Mat A C L) (hi : i < A) (hj : j < A) : K0s (A : Int) (C : Int) (i : Int) (j : Int) L = some (swapR none C i j L) := by
  have hC := h.C1
  obtain ⟨e, _⟩ := loop_run (step := K0s_s1 (A : Int) (C : Int) (i : Int) (j : Int) L) (fun c L => (L, (c : Int))) (swapP none C i j) (fun L => L) (fun _ L' => Mat A C L') (lo := 0) (n := C) (Nat.zero_le _) (s0 := L) h
    (fun c L' h1 h2 h3 => by
      refine ⟨?_, swapP_mat h3⟩
      show K0s_b1 _ _ _ _ _ _ _ = _
      unfold K0s_b1
      have l1 : decide ((sm L' C i c (gm none L' C j c)).length = L.length) = true := by simp [h3.len, h.len]
      have l2 : decide ((sm (sm L' C i c (gm none L' C j c)) C j c (gm none L' C i c)).length = L.length) = true := by simp [h3.len, h.len]
      rw [dlt h2, bsel_true, K0p_eq _ h3 hi h2, obind_eq, K0p_eq _ h3 hj h2, obind_eq, K0r_eq _ h3 hi h2, obind_eq, l1, need_true, K0r_eq _ (h3.set _ _ _) hj h2, obind_eq, l2, need_true, wsucc (by omega)]
      rfl)
    (fun L' _ => by
      show K0s_b1 _ _ _ _ _ _ _ = _
      unfold K0s_b1
      rw [dnlt, bsel_false])
  unfold K0s
  replace e : loopM (K0s_s1 (A : Int) (C : Int) (i : Int) (j : Int) L) (L, 0) = some (.inl (run (swapP none C i j) 0 (C - 0) L)) := e
  rw [e]; rfl
def tradeP (i j : Nat) (l : List Int) : List Int := (l.set i (l.getD j 0)).set j (l.getD i 0)
theorem tradeP_len (i j : Nat) (l : List Int) : (tradeP i j l).length = l.length := by simp [tradeP]
theorem tradeP_comm (i j : Nat) (l : List Int) : tradeP i j l = tradeP j i l := by
  unfold tradeP
  by_cases e : i = j
  · subst e; rfl
  · exact List.set_comm _ _ e
theorem K0t_eq {i j : Nat} {l : List Int} (hi : i < l.length) (hj : j < l.length) : K0t (i : Int) (j : Int) l = some (tradeP i j l) := by
  unfold K0t
  rw [at?_n 0 hj, obind_eq, at?_n 0 hi, obind_eq, setAt?_n _ hi, obind_eq, setAt?_n _ (by simpa using hj)]
  rfl
def upTo (n : Nat) : List Int := (List.range n).map fun (i : Nat) => (i : Int)
theorem upTo_len (n : Nat) : (upTo n).length = n := by simp [upTo]
theorem run_upTo : ∀ n : Nat, run (fun (i : Nat) (l : List Int) => l ++ [(i : Int)]) 0 n [] = upTo n
  | 0 => rfl
  | n + 1 => by rw [run_last, run_upTo n]; simp [upTo, List.range_succ]
theorem K0o_eq {n : Nat} (hn : n ≤ 12) : K0o (n : Int) = some (upTo n) := by
  obtain ⟨e, _⟩ := loop_run (step := K0o_s1 (n : Int)) (fun c L => (L, (c : Int))) (fun (i : Nat) (l : List Int) => l ++ [(i : Int)]) (fun L => L) (fun i L => L.length = i) (lo := 0) (n := n) (Nat.zero_le _) (s0 := []) rfl
    (fun c L h1 h2 h3 => by
      refine ⟨?_, by simp [h3]⟩
      show K0o_b1 _ _ _ = _
      unfold K0o_b1
      have ap : apok 8 L.length 1 = true := by simp [apok]; omega
      rw [dlt h2, bsel_true, ap, need_true, wsucc (by omega)]
      rfl)
    (fun L _ => by
      show K0o_b1 _ _ _ = _
      unfold K0o_b1
      rw [dnlt, bsel_false])
  unfold K0o
  replace e : loopM (K0o_s1 (n : Int)) ([], 0) = some (.inl (run (fun (i : Nat) (l : List Int) => l ++ [(i : Int)]) 0 (n - 0) [])) := e
  rw [e, Nat.sub_zero, run_upTo]; rfl
def elimE (C k r : Nat) (f : F) (j : Nat) (L : List F) : List F := sm L C r j (fop .sub .f32 (gm none L C r j) (fop .mul .f32 f (gm none L C k j)))
def elimRow (C k r : Nat) (L : List F) : List F := run (elimE C k r (fop .quo .f32 (gm none L C r k) (gm none L C k k))) (k + 1) (C - (k + 1)) (sm L C r k (fop .quo .f32 (gm none L C r k) (gm none L C k k)))
def elimP (A C k : Nat) (L : List F) : List F := run (elimRow C k) (k + 1) (A - (k + 1)) L
theorem elimE_mat {A C k r j : Nat} {f : F} {L : List F} (h : Mat A C L) : Mat A C (elimE C k r f j L) := h.set _ _ _
theorem elimE_oks {C k r j : Nat} {f : F} {L : List F} (h : FOks L) : FOks (elimE C k r f j L) := h.set (fop_fok _ _ _)
theorem elimRow_mat {A C k r : Nat} {L : List F} (h : Mat A C L) : Mat A C (elimRow C k r L) := run_inv (fun _ L => Mat A C L) _ _ _ (h.set _ _ _) fun _ _ _ _ h => elimE_mat h
theorem elimRow_oks {C k r : Nat} {L : List F} (h : FOks L) : FOks (elimRow C k r L) := run_inv (fun _ L => FOks L) _ _ _ (h.set (fop_fok _ _ _)) fun _ _ _ _ h => elimE_oks h
theorem elimP_mat {A C k : Nat} {L : List F} (h : Mat A C L) : Mat A C (elimP A C k L) := run_inv (fun _ L => Mat A C L) _ _ _ h fun _ _ _ _ h => elimRow_mat h
theorem elimP_oks {A C k : Nat} {L : List F} (h : FOks L) : FOks (elimP A C k L) := run_inv (fun _ L => FOks L) _ _ _ h fun _ _ _ _ h => elimRow_oks h
theorem elimE_keep {A C k r j i c : Nat} {f : F} {L : List F} (h : Mat A C L) (hr : r < A) (hj : j < C) (hc : c < C) (hne : r ≠ i ∨ c < j) : gm none (elimE C k r f j L) C i c = gm none L C i c := by
  unfold elimE
  rw [gm_set h hr hj hc, if_neg]
  rintro ⟨rfl, rfl⟩
  rcases hne with h | h
  · exact h rfl
  · omega
theorem elimRow_keep {A C k r i c : Nat} {L : List F} (h : Mat A C L) (hr : r < A) (hk : k < C) (hc : c < C) (hne : r ≠ i) : gm none (elimRow C k r L) C i c = gm none L C i c := by
  unfold elimRow
  have h1 := run_inv (f := elimE C k r (fop .quo .f32 (gm none L C r k) (gm none L C k k))) (fun _ L' => Mat A C L' ∧ gm none L' C i c = gm none L C i c) (C - (k + 1)) (k + 1) (sm L C r k (fop .quo .f32 (gm none L C r k) (gm none L C k k)))
    ⟨h.set _ _ _, by rw [gm_set h hr hk hc, if_neg (fun e => hne e.1)]⟩ (fun j L' a b hI => ⟨elimE_mat hI.1, by rw [elimE_keep hI.1 hr (by omega) hc (.inl hne)]; exact hI.2⟩)
  exact h1.2
theorem K0v_eq {A C k : Nat} {L : List F} (h : Mat A C L) (hkA : k < A) (hkC : k < C) : K0v (A : Int) (C : Int) (k : Int) L = some (elimP A C k L) := by
  have hC := h.C1
  have hA := h.A1
  have inner : ∀ (r : Nat) (f : F) (L' : List F), r < A → Mat A C L' → loopM (K0v_s2 (A : Int) (C : Int) (k : Int) L (r : Int) f) (L', ((k + 1 : Nat) : Int)) = some (.inl (run (elimE C k r f) (k + 1) (C - (k + 1)) L')) ∧ Mat A C (run (elimE C k r f) (k + 1) (C - (k + 1)) L') := by
    intro r f L' hr hL'
    exact loop_run (step := K0v_s2 (A : Int) (C : Int) (k : Int) L (r : Int) f) (fun j L => (L, (j : Int))) (elimE C k r f) (fun L => L) (fun _ L => Mat A C L) (lo := k + 1) (n := C) hkC (s0 := L') hL'
      (fun j L2 h1 h2 h3 => by
        refine ⟨?_, elimE_mat h3⟩
        show K0v_b2 _ _ _ _ _ _ _ _ = _
        unfold K0v_b2
        have l1 : decide ((elimE C k r f j L2).length = L.length) = true := by simp [(elimE_mat (k := k) (r := r) (j := j) (f := f) h3).len, h.len]
        unfold elimE at l1
        rw [dlt h2, bsel_true, K0p_eq _ h3 hr h2, obind_eq, K0p_eq _ h3 hkA h2, obind_eq, K0u_eq, obind_eq, olet_eq, K0r_eq _ h3 hr h2, obind_eq, l1, need_true, wsucc (by omega)]
        rfl)
      (fun L2 _ => by
        show K0v_b2 _ _ _ _ _ _ _ _ = _
        unfold K0v_b2
        rw [dnlt, bsel_false])
  obtain ⟨e, _⟩ := loop_run (step := K0v_s3 (A : Int) (C : Int) (k : Int) L) (fun j L => (L, (j : Int))) (elimRow C k) (fun L => L) (fun _ L => Mat A C L) (lo := k + 1) (n := A) hkA (s0 := L) h
    (fun r L2 h1 h2 h3 => by
      refine ⟨?_, elimRow_mat h3⟩
      show K0v_b3 _ _ _ _ _ _ = _
      unfold K0v_b3
      have l1 : decide ((sm L2 C r k (fop .quo .f32 (gm none L2 C r k) (gm none L2 C k k))).length = L.length) = true := by simp [h3.len, h.len]
      obtain ⟨i1, i2⟩ := inner r (fop .quo .f32 (gm none L2 C r k) (gm none L2 C k k)) _ h2 (h3.set r k (fop .quo .f32 (gm none L2 C r k) (gm none L2 C k k)))
      rw [dlt h2, bsel_true, K0p_eq _ h3 h2 hkC, obind_eq, K0p_eq _ h3 hkA hkC, obind_eq, olet_eq, K0r_eq _ h3 h2 hkC, obind_eq, l1, need_true, wsucc (by omega), olet_eq, i1, obind_eq, osum_inl]
      unfold K0v_k2
      rw [wsucc (by omega)]
      rfl)
    (fun L2 _ => by
      show K0v_b3 _ _ _ _ _ _ = _
      unfold K0v_b3
      rw [dnlt, bsel_false])
  unfold K0v
  rw [wsucc (by omega), olet_eq, e]
  rfl
theorem K2k_eq (a0 a1 : Int) {a2 : List F} (g2 : FOks a2) (s2 : a2.length ≤ 1048576) : K2k a0 a1 a2 = some (validM a0 a1 a2 && decide (a0 = a1)) := by
  unfold K2k
  rw [K2j_eq a0 a1 g2 s2, obind_eq]
  cases validM a0 a1 a2 <;> rfl
theorem K0l_eq (a0 a1 : Int) {a2 : List F} (g2 : FOks a2) (s2 : a2.length ≤ 1048576) : K0l a0 a1 a2 = some (validM a0 a1 a2 && decide (a0 = a1)) := by
  unfold K0l
  rw [K0k_eq a0 a1 g2 s2, obind_eq]
  cases validM a0 a1 a2 <;> rfl
theorem valid_mat {a0 a1 : Int} {a2 : List F} (h : validM a0 a1 a2 = true) : ∃ A C : Nat, a0 = (A : Int) ∧ a1 = (C : Int) ∧ 0 < A ∧ 0 < C ∧ Mat A C a2 ∧ a2.all fin32 = true := by
  simp only [validM, Bool.and_eq_true, decide_eq_true_eq] at h
  obtain ⟨⟨⟨v1, v2⟩, v3⟩, v4⟩ := h
  obtain ⟨A, rfl, A0, A1⟩ := side_nat v1
  obtain ⟨C, rfl, C0, C1⟩ := side_nat v2
  have hAC := small_mul A1 C1
  rw [← Int.natCast_mul, wn (by omega)] at v3
  exact ⟨A, C, rfl, rfl, A0, C0, ⟨A1, C1, by omega⟩, v4⟩
theorem mat_valid {A C : Nat} {L : List F} (h : Mat A C L) (hA : 0 < A) (hC : 0 < C) : validM (A : Int) (C : Int) L = L.all fin32 := by
  unfold validM side
  have hAC := small_mul h.A1 h.C1
  have h1 := h.A1
  have h2 := h.C1
  rw [← Int.natCast_mul, wn (by omega), h.len]
  have e1 : decide ((1 : Int) ≤ (A : Int)) = true := by simp; omega
  have e2 : decide ((A : Int) ≤ 12) = true := by simp; omega
  have e3 : decide ((1 : Int) ≤ (C : Int)) = true := by simp; omega
  have e4 : decide ((C : Int) ≤ 12) = true := by simp; omega
  rw [e1, e2, e3, e4]
  simp
theorem K0n_eq (a0 a1 : Int) {L : List F} (h : L.length ≤ 1048576) : K0n a0 a1 L = some (a0, a1, L) := by
  have ap : apok 4 0 L.length = true := by simp [apok]; omega
  unfold K0n K0m; rw [ap]; rfl
def frPick (n k p : Nat) (s : List F × List Int) : (List F × List Int) ⊕ (Int × Int × Bool × List F × List Int) :=
  bif feq .f32 (gm none s.1 n p k) (some 0) then .inr (0, 0, false, [], [])
  else bif (elimP n n k (swapR none n k p s.1)).all fin32 then .inl (elimP n n k (swapR none n k p s.1), tradeP k p s.2)
  else .inr (0, 0, false, [], [])
def frStep (n k : Nat) (s : List F × List Int) : (List F × List Int) ⊕ (Int × Int × Bool × List F × List Int) := frPick n k (run (findP n k s.1) (k + 1) (n - (k + 1)) k) s
def swapQ {α : Type} (d : α) (C i j r : Nat) (L : List α) : List α := sm (sm L C r i (gm d L C r j)) C r j (gm d L C r i)
theorem swapQ_mat {α : Type} {d : α} {A C i j r : Nat} {L : List α} (h : Mat A C L) : Mat A C (swapQ d C i j r L) := (h.set _ _ _).set _ _ _
theorem swapQ_oks {C i j r : Nat} {L : List F} (h : FOks L) : FOks (swapQ none C i j r L) := (h.set (h.getD _)).set (h.getD _)
theorem swapQ_comm {α : Type} {d : α} {C i j r : Nat} {L : List α} : swapQ d C i j r L = swapQ d C j i r L := by
  unfold swapQ
  by_cases e : i = j
  · subst e; rfl
  · exact List.set_comm _ _ (by omega)
def swapK {α : Type} (d : α) (A C i j : Nat) (L : List α) : List α := run (swapQ d C i j) 0 A L
theorem swapK_mat {α : Type} {d : α} {A C i j : Nat} {L : List α} (h : Mat A C L) : Mat A C (swapK d A C i j L) := run_inv (fun _ L => Mat A C L) A 0 L h fun _ _ _ _ h => swapQ_mat h
theorem swapK_oks {A C i j : Nat} {L : List F} (h : FOks L) : FOks (swapK none A C i j L) := run_inv (fun _ L => FOks L) A 0 L h fun _ _ _ _ h => swapQ_oks h
theorem swapK_comm {α : Type} {d : α} {A C i j : Nat} {L : List α} : swapK d A C i j L = swapK d A C j i L :=
  run_congr (fun _ _ => True) A 0 L trivial fun _ _ _ _ _ => ⟨swapQ_comm, trivial⟩
theorem K2b_eq {A C i j : Nat} {L : List F} (h : Mat A C L) (hi : i < C) (hj : j < C) : K2b (A : Int) (C : Int) (i : Int) (j : Int) L = some (swapK none A C i j L) := by
  have hA := h.A1
  obtain ⟨e, _⟩ := loop_run (step := K2b_s1 (A : Int) (C : Int) (i : Int) (j : Int) L) (fun c L => (L, (c : Int))) (swapQ none C i j) (fun L => L) (fun _ L' => Mat A C L') (lo := 0) (n := A) (Nat.zero_le _) (s0 := L) h
    (fun c L' h1 h2 h3 => by
      refine ⟨?_, swapQ_mat h3⟩
      show K2b_b1 _ _ _ _ _ _ _ = _
      unfold K2b_b1
      have l1 : decide ((sm L' C c i (gm none L' C c j)).length = L.length) = true := by simp [h3.len, h.len]
      have l2 : decide ((sm (sm L' C c i (gm none L' C c j)) C c j (gm none L' C c i)).length = L.length) = true := by simp [h3.len, h.len]
      rw [dlt h2, bsel_true, K0p_eq _ h3 h2 hi, obind_eq, K0p_eq _ h3 h2 hj, obind_eq, K0r_eq _ h3 h2 hi, obind_eq, l1, need_true, K0r_eq _ (h3.set _ _ _) h2 hj, obind_eq, l2, need_true, wsucc (by omega)]
      rfl)
    (fun L' _ => by
      show K2b_b1 _ _ _ _ _ _ _ = _
      unfold K2b_b1
      rw [dnlt, bsel_false])
  unfold K2b
  replace e : loopM (K2b_s1 (A : Int) (C : Int) (i : Int) (j : Int) L) (L, 0) = some (.inl (run (swapQ none C i j) 0 (A - 0) L)) := e
  rw [e]; rfl
def findB (C : Nat) (L : List F) (i c : Nat) (p : Nat × Nat) : Nat × Nat := bif flt .f32 (fabs32 (gm none L C p.1 p.2)) (fabs32 (gm none L C i c)) then (i, c) else p
def findR (n k : Nat) (L : List F) (i : Nat) (p : Nat × Nat) : Nat × Nat := run (fun c p => findB n L i c p) k (n - k) p
def findA (n k : Nat) (L : List F) : Nat × Nat := run (findR n k L) k (n - k) (k, k)
theorem K2c_findR {n k i : Nat} {L : List F} (p : Nat × Nat) (g : FOks L) (h : Mat n n L) (hk : k < n) (hi : i < n) (hp : p.1 < n ∧ p.2 < n) : loopM (K2c_s21 (n : Int) (n : Int) (n : Int) L (i : Int)) ((p.1 : Int), (p.2 : Int), (k : Int)) = some (.inl (((findR n k L i p).1 : Int), ((findR n k L i p).2 : Int))) ∧ ((findR n k L i p).1 < n ∧ (findR n k L i p).2 < n) := by
  have hn := h.A1
  exact loop_run (step := K2c_s21 (n : Int) (n : Int) (n : Int) L (i : Int)) (fun (c : Nat) (p : Nat × Nat) => ((p.1 : Int), (p.2 : Int), (c : Int))) (fun c p => findB n L i c p) (fun (p : Nat × Nat) => ((p.1 : Int), (p.2 : Int))) (fun _ p => p.1 < n ∧ p.2 < n) (lo := k) (n := n) (Nat.le_of_lt hk) (s0 := p) hp
    (fun c p h1 h2 h3 => by
      refine ⟨?_, ?_⟩
      · show K2c_b21 _ _ _ _ _ _ _ _ = _
        unfold K2c_b21
        rw [dlt h2, bsel_true, K0p_eq _ h hi h2, obind_eq, K0q_eq (g.getD _), obind_eq, K0p_eq _ h h3.1 h3.2, obind_eq, K0q_eq (g.getD _), obind_eq]
        unfold K2c_k20 findB
        rw [wsucc (by omega)]
        cases flt .f32 (fabs32 (gm none L n p.1 p.2)) (fabs32 (gm none L n i c)) <;> rfl
      · unfold findB
        cases flt .f32 (fabs32 (gm none L n p.1 p.2)) (fabs32 (gm none L n i c))
        · exact h3
        · exact ⟨hi, h2⟩)
    (fun p _ => by
      show K2c_b21 _ _ _ _ _ _ _ _ = _
      unfold K2c_b21
      rw [dnlt, bsel_false])
theorem K2c_findA {n k : Nat} {L : List F} (g : FOks L) (h : Mat n n L) (hk : k < n) : loopM (K2c_s22 (n : Int) (n : Int) (n : Int) L (k : Int)) ((k : Int), (k : Int), (k : Int)) = some (.inl (((findA n k L).1 : Int), ((findA n k L).2 : Int))) ∧ ((findA n k L).1 < n ∧ (findA n k L).2 < n) := by
  have hn := h.A1
  exact loop_run (step := K2c_s22 (n : Int) (n : Int) (n : Int) L (k : Int)) (fun (c : Nat) (p : Nat × Nat) => ((p.1 : Int), (p.2 : Int), (c : Int))) (findR n k L) (fun (p : Nat × Nat) => ((p.1 : Int), (p.2 : Int))) (fun _ p => p.1 < n ∧ p.2 < n) (lo := k) (n := n) (Nat.le_of_lt hk) (s0 := (k, k)) ⟨hk, hk⟩
    (fun i p h1 h2 h3 => by
      obtain ⟨e1, e2⟩ := K2c_findR p g h hk h2 h3
      refine ⟨?_, e2⟩
      show K2c_b22 _ _ _ _ _ _ _ _ = _
      unfold K2c_b22
      rw [dlt h2, bsel_true, e1, obind_eq, osum_inl]
      unfold K2c_k21
      rw [wsucc (by omega)]; rfl)
    (fun p _ => by
      show K2c_b22 _ _ _ _ _ _ _ _ = _
      unfold K2c_b22
      rw [dnlt, bsel_false])
abbrev FB := List F × List Int × List Int
abbrev FBr := Int × Int × Int × Bool × List F × List Int × List Int
def fbPick (n k : Nat) (near : F) (p q : Nat) (s : FB) : LR FB (List F × List Int × List Int × Int) FBr :=
  bif fle .f32 (fabs32 (gm none s.1 n p q)) near then .out (s.1, s.2.1, s.2.2, (k : Int))
  else bif (elimP n n k (swapK none n n k q (swapR none n k p s.1))).all fin32 then .next (elimP n n k (swapK none n n k q (swapR none n k p s.1)), tradeP k p s.2.1, tradeP k q s.2.2)
  else .ret (0, 0, 0, false, [], [], [])
def fbStep (n : Nat) (near : F) (k : Nat) (s : FB) : LR FB (List F × List Int × List Int × Int) FBr := fbPick n k near (findA n k s.1).1 (findA n k s.1).2 s
structure FbInv (n : Nat) (s : FB) : Prop where
  m : Mat n n s.1
  g : FOks s.1
  f : s.1.all fin32 = true
  o : s.2.1.length = n
  c : s.2.2.length = n
abbrev fbMk (k : Nat) (s : FB) : List F × List Int × List Int × Int × Int := (s.1, s.2.1, s.2.2, (k : Int), (k : Int))
theorem fbStep_inv {n k : Nat} {near : F} {s s' : FB} (h : FbInv n s) (e : fbStep n near k s = .next s') : FbInv n s' := by
  unfold fbStep at e
  generalize (findA n k s.1).1 = p at e
  generalize (findA n k s.1).2 = q at e
  unfold fbPick at e
  cases hz : fle .f32 (fabs32 (gm none s.1 n p q)) near with
  | true => rw [hz, cond_true] at e; cases e
  | false =>
    rw [hz, cond_false] at e
    cases hf : (elimP n n k (swapK none n n k q (swapR none n k p s.1))).all fin32 with
    | false => rw [hf, cond_false] at e; cases e
    | true =>
      rw [hf, cond_true] at e
      cases e
      exact ⟨elimP_mat (swapK_mat (swapR_mat h.m)), elimP_oks (swapK_oks (swapR_oks h.g)), hf, by rw [tradeP_len]; exact h.o, by rw [tradeP_len]; exact h.c⟩
theorem K2c_step {n k : Nat} {near : F} {s : FB} (r5 : List F) (r6 r7 : List Int) (h5 : r5.length = n * n) (h6 : r6.length = n) (h7 : r7.length = n) (hk : k < n) (h : FbInv n s) :
    K2c_b23 (n : Int) near (n : Int) (n : Int) r5 r6 r7 s.1 s.2.1 s.2.2 (k : Int) (k : Int) = some (lrmap (fbMk (k + 1)) (fbStep n near k s)) := by
  have hn := h.m.A1
  obtain ⟨p1, p2, p3⟩ := K2c_findA h.g h.m hk
  unfold K2c_b23 fbStep
  rw [dlt hk, bsel_true, p1, obind_eq, osum_inl]
  generalize (findA n k s.1).1 = p at p2
  generalize (findA n k s.1).2 = q at p3
  unfold K2c_k22 fbPick
  rw [K0p_eq _ h.m p2 p3, obind_eq, K0q_eq (h.g.getD _), obind_eq]
  cases hz : fle .f32 (fabs32 (gm none s.1 n p q)) near with
  | true => rfl
  | false =>
    rw [bsel_false, cond_false]
    have m1 : Mat n n (swapR none n k p s.1) := swapR_mat h.m
    have m2 : Mat n n (swapK none n n k q (swapR none n k p s.1)) := swapK_mat m1
    have l1 : decide ((swapR none n k p s.1).length = r5.length) = true := by simp [m1.len, h5]
    have l2 : decide ((swapK none n n k q (swapR none n k p s.1)).length = r5.length) = true := by simp [m2.len, h5]
    have l3 : decide ((tradeP k p s.2.1).length = r6.length) = true := by simp [tradeP_len, h.o, h6]
    have l5 : decide ((tradeP k q s.2.2).length = r7.length) = true := by simp [tradeP_len, h.c, h7]
    have o1 : k < s.2.1.length := by rw [h.o]; exact hk
    have o2 : p < s.2.1.length := by rw [h.o]; exact p2
    have o3 : k < s.2.2.length := by rw [h.c]; exact hk
    have o4 : q < s.2.2.length := by rw [h.c]; exact p3
    have l4 : decide ((elimP n n k (swapK none n n k q (swapR none n k p s.1))).length = r5.length) = true := by simp [(elimP_mat m2).len, h5]
    rw [K0s_eq h.m p2 hk, swapR_comm h.m p2 hk, obind_eq, l1, need_true, K0t_eq o2 o1, tradeP_comm p k, obind_eq, l3, need_true, K2b_eq m1 p3 hk, swapK_comm (i := q), obind_eq, l2, need_true, K0t_eq o4 o3, tradeP_comm q k, obind_eq, l5, need_true,
      K0v_eq m2 hk hk, obind_eq, l4, need_true, K0k_eq _ _ (elimP_oks (swapK_oks (swapR_oks h.g))) (elimP_mat m2).le, mat_valid (elimP_mat m2) (by omega) (by omega), obind_eq, wsucc (by omega)]
    cases (elimP n n k (swapK none n n k q (swapR none n k p s.1))).all fin32 <;> rfl
theorem K1f_eq {A C : Nat} (hA : A ≤ 12) (hC : C ≤ 12) : K1f (A : Int) (C : Int) = some ((A : Int), (C : Int), List.replicate (A * C) (some 0)) := by
  have hAC := small_mul hA hC
  unfold K1f
  have mk : mkok 4 ((A * C : Nat) : Int) = true := by simp [mkok]; omega
  rw [← Int.natCast_mul, wn (by omega), olet_eq, mk]; rfl
theorem mat_ext {A C : Nat} {L L' : List F} (h : Mat A C L) (h' : Mat A C L') (e : ∀ i k, i < A → k < C → gm none L C i k = gm none L' C i k) : L = L' := by
  apply List.ext_getElem?
  intro q
  by_cases hq : q < A * C
  · have hC : 0 < C := by
      rcases Nat.eq_zero_or_pos C with h0 | h0
      · subst h0; simp at hq
      · exact h0
    have h1 : q / C < A := (Nat.div_lt_iff_lt_mul hC).2 hq
    have h2 : q % C < C := Nat.mod_lt _ hC
    have h3 : q / C * C + q % C = q := by rw [Nat.mul_comm]; exact Nat.div_add_mod q C
    have := e _ _ h1 h2
    unfold gm at this
    rw [h3] at this
    rw [getD_of_lt none (by rw [h.len]; exact hq), getD_of_lt none (by rw [h'.len]; exact hq), this]
  · rw [List.getElem?_eq_none (by rw [h.len]; omega), List.getElem?_eq_none (by rw [h'.len]; omega)]
def fillR (f : Nat → Nat → F) (C i : Nat) (L : List F) : List F := run (fun k L => sm L C i k (f i k)) 0 C L
def fillA (f : Nat → Nat → F) (A C : Nat) (L : List F) : List F := run (fillR f C) 0 A L
theorem fillR_spec {f : Nat → Nat → F} {A C i : Nat} {L : List F} (h : Mat A C L) (hi : i < A) : Mat A C (fillR f C i L) ∧ ∀ j k, j < A → k < C → gm none (fillR f C i L) C j k = if j = i then f i k else gm none L C j k := by
  have := run_inv (f := fun k L => sm L C i k (f i k)) (fun c L' => Mat A C L' ∧ ∀ j k, j < A → k < C → gm none L' C j k = if j = i ∧ k < c then f i k else gm none L C j k) C 0 L ⟨h, fun j k _ _ => by simp⟩ (fun c L' _ hc hI => by
    refine ⟨hI.1.set _ _ _, fun j k hj hk => ?_⟩
    rw [gm_set hI.1 hi (by omega) hk, hI.2 j k hj hk]
    by_cases e1 : i = j
    · subst e1
      by_cases e2 : c = k
      · subst e2; simp
      · by_cases e3 : k < c
        · rw [if_neg (by omega), if_pos (by omega), if_pos (by omega)]
        · rw [if_neg (by omega), if_neg (by omega), if_neg (by omega)]
    · rw [if_neg (by omega), if_neg (by omega), if_neg (by omega)])
  refine ⟨this.1, fun j k hj hk => ?_⟩
  unfold fillR
  rw [this.2 j k hj hk]
  by_cases e : j = i
  · rw [if_pos ⟨e, by omega⟩, if_pos e]
  · rw [if_neg (by omega), if_neg e]
theorem fillA_spec {f : Nat → Nat → F} {A C : Nat} {L : List F} (h : Mat A C L) : Mat A C (fillA f A C L) ∧ ∀ j k, j < A → k < C → gm none (fillA f A C L) C j k = f j k := by
  have := run_inv (f := fillR f C) (fun r L' => Mat A C L' ∧ ∀ j k, j < r → j < A → k < C → gm none L' C j k = f j k) A 0 L ⟨h, fun j k hj _ _ => by omega⟩ (fun r L' _ hr hI => by
    obtain ⟨s1, s2⟩ := fillR_spec (f := f) hI.1 (show r < A by omega)
    refine ⟨s1, fun j k hj hjA hk => ?_⟩
    rw [s2 j k hjA hk]
    by_cases e : j = r
    · rw [if_pos e, e]
    · rw [if_neg e]; exact hI.2 j k (by omega) hjA hk)
  exact ⟨this.1, fun j k hj hk => this.2 j k (by omega) hj hk⟩
def tabM (A C : Nat) (f : Nat → Nat → F) : List F := fillA f A C (List.replicate (A * C) (some 0))
theorem zmat {A C : Nat} (hA : A ≤ 12) (hC : C ≤ 12) : Mat A C (List.replicate (A * C) (some 0 : F)) := ⟨hA, hC, by simp⟩
theorem tabM_mat {A C : Nat} {f : Nat → Nat → F} (hA : A ≤ 12) (hC : C ≤ 12) : Mat A C (tabM A C f) := (fillA_spec (zmat hA hC)).1
theorem tabM_gm {A C : Nat} {f : Nat → Nat → F} (hA : A ≤ 12) (hC : C ≤ 12) {i k : Nat} (hi : i < A) (hk : k < C) : gm none (tabM A C f) C i k = f i k := (fillA_spec (zmat hA hC)).2 i k hi hk
theorem oks_of_gm {A C : Nat} {L : List F} (h : Mat A C L) (e : ∀ i k, i < A → k < C → FOk .f32 (gm none L C i k)) : FOks L := by
  intro c hc
  obtain ⟨q, hq, rfl⟩ := List.mem_iff_getElem.1 hc
  have hq' : q < A * C := by rw [← h.len]; exact hq
  have hC : 0 < C := by
    rcases Nat.eq_zero_or_pos C with h0 | h0
    · subst h0; simp at hq'
    · exact h0
  have h1 : q / C < A := (Nat.div_lt_iff_lt_mul hC).2 hq'
  have h2 : q % C < C := Nat.mod_lt _ hC
  have h3 : q / C * C + q % C = q := by rw [Nat.mul_comm]; exact Nat.div_add_mod q C
  have := e _ _ h1 h2
  unfold gm at this
  rw [h3] at this
  simpa [List.getD, hq] using this
theorem tabM_oks {A C : Nat} {f : Nat → Nat → F} (hA : A ≤ 12) (hC : C ≤ 12) (hf : ∀ i k, FOk .f32 (f i k)) : FOks (tabM A C f) := oks_of_gm (tabM_mat hA hC) fun i k hi hk => by rw [tabM_gm hA hC hi hk]; exact hf i k
theorem run_map {α : Type} (f : Nat → α) : ∀ n : Nat, run (fun i (l : List α) => l ++ [f i]) 0 n [] = (List.range n).map f
  | 0 => rfl
  | n + 1 => by rw [run_last, run_map f n]; simp [List.range_succ]
def unitF (i k : Nat) : F := bif decide (i = k) then some 1065353216 else some 0
theorem K1g_eq (i k : Nat) : K1g (i : Int) (k : Int) = some (unitF i k) := by
  unfold K1g unitF
  by_cases h : i = k
  · subst h; simp
  · rw [show decide ((i : Int) = (k : Int)) = false by simp; omega, show decide (i = k) = false by simp [h]]; rfl
theorem K1h_eq {A C : Nat} (hA : A ≤ 12) (hC : C ≤ 12) : K1h (A : Int) (C : Int) = some ((A : Int), (C : Int), tabM A C unitF) := by
  have inner : ∀ (i : Nat) (L L0 : List F), i < A → Mat A C L → Mat A C L0 → loopM (K1h_s2 (C : Int) (A : Int) (C : Int) L0 (i : Int)) (L, 0) = some (.inl (fillR unitF C i L)) := by
    intro i L L0 hi hL hL0
    exact (loop_run (step := K1h_s2 (C : Int) (A : Int) (C : Int) L0 (i : Int)) (fun (k : Nat) (L : List F) => (L, (k : Int))) (fun k L => sm L C i k (unitF i k)) (fun L => L) (fun _ L => Mat A C L) (lo := 0) (n := C) (Nat.zero_le _) (s0 := L) hL
      (fun k L2 _ hk h3 => by
        refine ⟨?_, h3.set _ _ _⟩
        show K1h_b2 _ _ _ _ _ _ _ = _
        unfold K1h_b2
        have l1 : decide ((sm L2 C i k (unitF i k)).length = L0.length) = true := by simp [h3.len, hL0.len]
        rw [dlt hk, bsel_true, K1g_eq, obind_eq, K0r_eq _ h3 hi hk, obind_eq, l1, need_true, wsucc (by omega)]
        rfl)
      (fun L2 _ => by
        show K1h_b2 _ _ _ _ _ _ _ = _
        unfold K1h_b2
        rw [dnlt, bsel_false])).1
  have e := (loop_run (step := K1h_s3 (A : Int) (C : Int) (A : Int) (C : Int) (List.replicate (A * C) (some 0))) (fun (i : Nat) (L : List F) => (L, (i : Int))) (fillR unitF C) (fun L => L) (fun _ L => Mat A C L) (lo := 0) (n := A) (Nat.zero_le _) (s0 := List.replicate (A * C) (some 0)) (zmat hA hC)
    (fun i L2 _ hi h3 => by
      refine ⟨?_, (fillR_spec h3 hi).1⟩
      show K1h_b3 _ _ _ _ _ _ _ = _
      unfold K1h_b3
      rw [dlt hi, bsel_true, inner i L2 _ hi h3 (zmat hA hC), obind_eq, osum_inl]
      unfold K1h_k2
      rw [wsucc (by omega)]
      rfl)
    (fun L2 _ => by
      show K1h_b3 _ _ _ _ _ _ _ = _
      unfold K1h_b3
      rw [dnlt, bsel_false])).1
  unfold K1h
  replace e : loopM (K1h_s3 (A : Int) (C : Int) (A : Int) (C : Int) (List.replicate (A * C) (some 0))) (List.replicate (A * C) (some 0), 0) = some (.inl (tabM A C unitF)) := e
  rw [K1f_eq hA hC, obind3_eq, e]; rfl
theorem K1i_eq {n : Nat} (hn : n ≤ 12) : K1i (n : Int) = some ((n : Int), (n : Int), tabM n n unitF) := by
  unfold K1i
  rw [K1h_eq hn hn]; rfl
def colP (A C k : Nat) (L : List F) : List F := (List.range A).map fun i => gm none L C i k
theorem colP_len {A C k : Nat} {L : List F} : (colP A C k L).length = A := by simp [colP]
theorem colP_at {A C k i : Nat} {L : List F} (hi : i < A) : (colP A C k L).getD i none = gm none L C i k := by
  simp [colP, List.getD, hi]
theorem K1j_eq {A C k : Nat} {L : List F} (h : Mat A C L) (hk : k < C) : K1j (A : Int) (C : Int) L (k : Int) = some (colP A C k L) := by
  have hA := h.A1
  obtain ⟨e, _⟩ := loop_run (step := K1j_s1 (A : Int) (C : Int) L (k : Int)) (fun (i : Nat) (l : List F) => (l, (i : Int))) (fun i l => l ++ [gm none L C i k]) (fun l => l) (fun i l => l.length = i) (lo := 0) (n := A) (Nat.zero_le _) (s0 := []) rfl
    (fun i l _ hi h3 => by
      refine ⟨?_, by simp [h3]⟩
      show K1j_b1 _ _ _ _ _ _ = _
      unfold K1j_b1
      have ap : apok 4 l.length 1 = true := by simp [apok]; omega
      rw [dlt hi, bsel_true, K0p_eq _ h hi hk, obind_eq, ap, need_true, wsucc (by omega)]
      rfl)
    (fun l _ => by
      show K1j_b1 _ _ _ _ _ _ = _
      unfold K1j_b1
      rw [dnlt, bsel_false])
  unfold K1j
  replace e : loopM (K1j_s1 (A : Int) (C : Int) L (k : Int)) ([], 0) = some (.inl (run (fun i l => l ++ [gm none L C i k]) 0 (A - 0) [])) := e
  rw [e, Nat.sub_zero, run_map]; rfl
def dotE (f g : Nat → F) (i : Nat) (y : F) : F := fop .add .f32 y (fop .mul .f32 (f i) (g i))
def dotN (f g : Nat → F) (n : Nat) : F := run (dotE f g) 0 n (some 0)
theorem zero_ok : FOk .f32 (some 0) := ⟨0, rfl, by decide, rfl⟩
theorem dotN_ok (f g : Nat → F) (n : Nat) : FOk .f32 (dotN f g n) := run_inv (fun _ y => FOk .f32 y) n 0 (some 0) zero_ok fun _ _ _ _ _ => fop_fok _ _ _
theorem dotN_congr {f g f' g' : Nat → F} {n : Nat} (h : ∀ i, i < n → f i = f' i ∧ g i = g' i) : dotN f g n = dotN f' g' n :=
  run_congr (fun _ _ => True) n 0 _ trivial fun i y _ hi _ => ⟨by unfold dotE; rw [(h i (by omega)).1, (h i (by omega)).2], trivial⟩
theorem K24_eq {l m : List F} (hl : l.length ≤ m.length) (hs : l.length ≤ 1000000) : K24 l m = some (dotN (fun i => l.getD i none) (fun i => m.getD i none) l.length) := by
  obtain ⟨e, _⟩ := loop_run (step := K24_s1 l m) (fun (i : Nat) (y : F) => (y, (i : Int))) (dotE (fun i => l.getD i none) (fun i => m.getD i none)) (fun y => y) (fun _ _ => True) (lo := 0) (n := l.length) (Nat.zero_le _) (s0 := some 0) trivial
    (fun i y _ hi _ => by
      refine ⟨?_, trivial⟩
      show K24_b1 _ _ _ _ = _
      unfold K24_b1
      rw [dlt hi, bsel_true, at?_n none hi, obind_eq, at?_n none (by omega), obind_eq, K0u_eq, obind_eq, olet_eq, wsucc (by omega)]
      rfl)
    (fun y _ => by
      show K24_b1 _ _ _ _ = _
      unfold K24_b1
      rw [dnlt, bsel_false])
  unfold K24
  replace e : loopM (K24_s1 l m) (some 0, 0) = some (.inl (run (dotE (fun i => l.getD i none) (fun i => m.getD i none)) 0 (l.length - 0) (some 0))) := e
  rw [e]; rfl
theorem tdiv_n (q C : Nat) : (q : Int).tdiv (C : Int) = ((q / C : Nat) : Int) := by rw [Int.tdiv_eq_ediv_of_nonneg (by omega), Int.natCast_ediv]
theorem tmod_n (q C : Nat) : (q : Int).tmod (C : Int) = ((q % C : Nat) : Int) := by rw [Int.tmod_eq_emod_of_nonneg (by omega), Int.natCast_emod]
theorem dne0 {C : Nat} (h : 0 < C) : (!decide ((C : Int) = 0)) = true := by simp; omega
theorem sub?_n {α : Type} {L : List α} {a b : Nat} (h1 : a ≤ b) (h2 : b ≤ L.length) : sub? L (a : Int) (b : Int) = some ((L.take b).drop a) := by
  unfold sub?
  rw [if_pos (by omega)]; rfl
def mulE (B C : Nat) (L M : List F) (i k : Nat) : F := dotN (fun j => gm none L B i j) (fun j => gm none M C j k) B
theorem mulE_ok (B C : Nat) (L M : List F) (i k : Nat) : FOk .f32 (mulE B C L M i k) := dotN_ok _ _ _
theorem range_tab {A C : Nat} {f : Nat → Nat → F} (hA : A ≤ 12) (hC : C ≤ 12) : (List.range (A * C)).map (fun q => f (q / C) (q % C)) = tabM A C f := by
  refine mat_ext (A := A) (C := C) ⟨hA, hC, by simp⟩ (tabM_mat hA hC) fun i k hi hk => ?_
  rw [tabM_gm hA hC hi hk]
  have h1 := idx_lt hi hk
  obtain ⟨d1, d2⟩ := div_at (i := i) hk
  simp [gm, List.getD, h1, d1, d2]
theorem K34_eq {A B C : Nat} {L M : List F} (m : Mat A B L) (n : Mat B C M) (hC0 : 0 < C) : K34 (A : Int) (B : Int) L (B : Int) (C : Int) M = some ((A : Int), (C : Int), tabM A C (mulE B C L M)) := by
  have hA := m.A1
  have hB := m.C1
  have hC := n.C1
  have hAC := small_mul hA hC
  have inner : ∀ q : Nat, q < A * C → loopM (K34_s2 (A : Int) (B : Int) L (B : Int) (C : Int) M (q : Int)) (some 0, 0) = some (.inl (mulE B C L M (q / C) (q % C))) := by
    intro q hq
    have d1 : q / C < A := (Nat.div_lt_iff_lt_mul hC0).2 hq
    have d2 : q % C < C := Nat.mod_lt _ hC0
    exact (loop_run (step := K34_s2 (A : Int) (B : Int) L (B : Int) (C : Int) M (q : Int)) (fun (j : Nat) (y : F) => (y, (j : Int))) (dotE (fun j => gm none L B (q / C) j) (fun j => gm none M C j (q % C))) (fun y => y) (fun _ _ => True) (lo := 0) (n := B) (Nat.zero_le _) (s0 := some 0) trivial
      (fun j y _ hj _ => by
        refine ⟨?_, trivial⟩
        show K34_b2 _ _ _ _ _ _ _ _ _ = _
        unfold K34_b2
        rw [dlt hj, bsel_true, dne0 hC0, need_true, tdiv_n, wn (by omega), olet_eq, K2l_eq _ m d1 hj, obind_eq, need_true, tmod_n, olet_eq, K2l_eq _ n hj d2, obind_eq, olet_eq, olet_eq, wsucc (by omega)]
        rfl)
      (fun y _ => by
        show K34_b2 _ _ _ _ _ _ _ _ _ = _
        unfold K34_b2
        rw [dnlt, bsel_false])).1
  have e := (loop_run (step := K34_s3 (A : Int) (B : Int) L (B : Int) (C : Int) M) (fun (q : Nat) (l : List F) => (l, (q : Int))) (fun q l => l ++ [mulE B C L M (q / C) (q % C)]) (fun l => l) (fun q l => l.length = q) (lo := 0) (n := A * C) (Nat.zero_le _) (s0 := []) rfl
    (fun q l _ hq hl => by
      refine ⟨?_, by simp [hl]⟩
      show K34_b3 _ _ _ _ _ _ _ _ = _
      unfold K34_b3
      have ap : apok 4 l.length 1 = true := by simp [apok, hl]; omega
      rw [← Int.natCast_mul, wn (by omega), olet_eq, dlt hq, bsel_true, inner q hq, obind_eq, osum_inl]
      unfold K34_k2
      rw [ap, need_true, wsucc (by omega)]
      rfl)
    (fun l _ => by
      show K34_b3 _ _ _ _ _ _ _ _ = _
      unfold K34_b3
      rw [← Int.natCast_mul, wn (by omega), olet_eq, dnlt, bsel_false])).1
  unfold K34 K03
  replace e : loopM (K34_s3 (A : Int) (B : Int) L (B : Int) (C : Int) M) ([], 0) = some (.inl (run (fun q l => l ++ [mulE B C L M (q / C) (q % C)]) 0 (A * C - 0) [])) := e
  rw [Nat.sub_zero, run_map, range_tab hA hC] at e
  rw [obind3_eq, e]; rfl
def mulQ (A B C : Nat) (L M : List F) : Int × Int × Bool × List F := bif (L.all fin32 && M.all fin32) && (tabM A C (mulE B C L M)).all fin32 then ((A : Int), (C : Int), true, tabM A C (mulE B C L M)) else (0, 0, false, [])
theorem K36_eq {A B C : Nat} {L M : List F} (m : Mat A B L) (n : Mat B C M) (g : FOks L) (h : FOks M) (hA : 0 < A) (hB : 0 < B) (hC : 0 < C) : K36 (A : Int) (B : Int) L (B : Int) (C : Int) M = some (mulQ A B C L M) := by
  unfold K36 K33 mulQ
  have mR : Mat A C (tabM A C (mulE B C L M)) := tabM_mat m.A1 n.C1
  have gR : FOks (tabM A C (mulE B C L M)) := tabM_oks m.A1 n.C1 (mulE_ok B C L M)
  rw [K2j_eq _ _ g m.le, mat_valid m hA hB, K2j_eq _ _ h n.le, mat_valid n hB hC]
  cases L.all fin32 with
  | false => rfl
  | true =>
    cases M.all fin32 with
    | false => rfl
    | true =>
      have e : decide ((B : Int) = (B : Int)) = true := by simp
      simp only [obind_eq, bsel_true, e, Bool.true_and]
      rw [K34_eq m n hC, obind3_eq]
      unfold K35
      rw [K2j_eq _ _ gR mR.le, mat_valid mR hA hC]
      cases (tabM A C (mulE B C L M)).all fin32 with
      | false => simp [osum, obind, need, obind5, bsel]
      | true => simp [osum, obind, need, obind4, bsel]
abbrev gI (l : List Int) (i : Nat) : Int := l.getD i 0
structure SpIn (S : Nat) (a1 a2 : List Int) : Prop where
  S1 : 1 ≤ S
  S2 : S ≤ 32
  l1 : a1.length = S + 1
  l2 : a2.length ≤ 512
  z : gI a1 0 = 0
  e : gI a1 S = (a2.length : Int)
structure SpGood (S : Nat) (a1 a2 : List Int) : Prop where
  s : ∀ i, i < S → gI a1 i ≤ gI a1 (i + 1)
  c : ∀ k, k < a2.length → 0 ≤ gI a2 k ∧ gI a2 k ≤ (S : Int) - 1
  o : ∀ i, i < S → ∀ k : Nat, gI a1 i < (k : Int) → (k : Int) < gI a1 (i + 1) → gI a2 (k - 1) < gI a2 k
theorem SpGood.mono {S : Nat} {a1 a2 : List Int} (h : SpGood S a1 a2) : ∀ (d i : Nat), i + d ≤ S → gI a1 i ≤ gI a1 (i + d)
  | 0, i, _ => Int.le_refl _
  | d + 1, i, hd => Int.le_trans (h.mono d i (by omega)) (h.s (i + d) (by omega))
theorem SpGood.lo {S : Nat} {a1 a2 : List Int} (h : SpGood S a1 a2) (i0 : SpIn S a1 a2) {i : Nat} (hi : i ≤ S) : 0 ≤ gI a1 i ∧ gI a1 i ≤ (a2.length : Int) := by
  have h1 := h.mono i 0 (by omega)
  have h2 := h.mono (S - i) i (by omega)
  rw [Nat.zero_add, i0.z] at h1
  rw [show i + (S - i) = S by omega, i0.e] at h2
  exact ⟨h1, h2⟩
def zipW (f : F → F → F) (n : Nat) (l m : List F) : List F := (List.range n).map fun i => f (l.getD i none) (m.getD i none)
theorem run_set (g : Nat → F → F) {n : Nat} {L : List F} (h : L.length = n) : run (fun i (L : List F) => L.set i (g i (L.getD i none))) 0 n L = (List.range n).map fun i => g i (L.getD i none) := by
  have := run_inv (f := fun i (L : List F) => L.set i (g i (L.getD i none))) (fun j L' => L'.length = n ∧ ∀ i, i < n → L'.getD i none = if i < j then g i (L.getD i none) else L.getD i none) n 0 L ⟨h, fun i _ => by simp⟩ (fun j L' _ hj hI => by
    refine ⟨by simp [hI.1], fun i hi => ?_⟩
    by_cases e : j = i
    · subst e
      have hl : j < L'.length := by rw [hI.1]; exact hi
      have := hI.2 j hi
      rw [if_neg (by omega)] at this
      rw [if_pos (by omega), List.getD_eq_getElem?_getD, List.getElem?_set_self hl, Option.getD_some, this]
    · have h1 := hI.2 i hi
      rw [List.getD_eq_getElem?_getD, List.getElem?_set_ne e, ← List.getD_eq_getElem?_getD, h1]
      by_cases e2 : i < j
      · rw [if_pos e2, if_pos (by omega)]
      · rw [if_neg e2, if_neg (by omega)])
  rw [Nat.zero_add] at this
  refine List.ext_getElem (by rw [this.1]; simp) fun i h1 h2 => ?_
  have hi : i < n := by rw [← this.1]; exact h1
  have e := this.2 i hi
  rw [if_pos hi, List.getD_eq_getElem?_getD, List.getElem?_eq_getElem h1, Option.getD_some] at e
  rw [e]; simp
def fma (t x y : F) : F := fop .add .f32 x (fop .mul .f32 t y)
def fms (t x y : F) : F := fop .sub .f32 x (fop .mul .f32 t y)
structure SpOk (S : Nat) (a1 a2 : List Int) (a3 : List F) : Prop where
  i : SpIn S a1 a2
  g : SpGood S a1 a2
  l : a3.length = a2.length
theorem at?_i {α : Type} {L : List α} {v : Int} (d : α) (h0 : 0 ≤ v) (h : v.toNat < L.length) : at? L v = some (L.getD v.toNat d) := at?_of h0 (by simp [List.getD, h])
theorem SpOk.row {S : Nat} {a1 a2 : List Int} {a3 : List F} (h : SpOk S a1 a2 a3) {i : Nat} (hi : i < S) : 0 ≤ gI a1 i ∧ gI a1 i ≤ gI a1 (i + 1) ∧ gI a1 (i + 1) ≤ (a2.length : Int) :=
  ⟨(h.g.lo h.i (by omega)).1, h.g.s i hi, (h.g.lo h.i (i := i + 1) (by omega)).2⟩
abbrev GrS := List F × List F × List F × F
def gX (S : Nat) (t : F) (s : GrS) : List F := zipW (fma t) S s.1 s.2.2.1
def gR (S : Nat) (q : List F) (t : F) (s : GrS) : List F := zipW (fms t) S s.2.1 q
def flipM (n : Nat) (P : List F) : List F := tabM n n (fun i k => gm none P n k i)
theorem flipM_mat {n : Nat} {P : List F} (hn : n ≤ 12) : Mat n n (flipM n P) := tabM_mat hn hn
theorem flipM_gm {n : Nat} {P : List F} (hn : n ≤ 12) {i k : Nat} (hi : i < n) (hk : k < n) : gm none (flipM n P) n i k = gm none P n k i := tabM_gm hn hn hi hk
theorem K1r_eq {n : Nat} {P : List F} (m : Mat n n P) : K1r (n : Int) (n : Int) (n : Int) (n : Int) P = some ((n : Int), (n : Int), flipM n P) := by
  have hn := m.A1
  have inner : ∀ (i : Nat) (L L0 : List F), i < n → Mat n n L → Mat n n L0 → loopM (K1r_s2 (n : Int) (n : Int) (n : Int) P (n : Int) (n : Int) L0 (i : Int)) (L, 0) = some (.inl (fillR (fun i k => gm none P n k i) n i L)) := by
    intro i L L0 hi hL hL0
    exact (loop_run (step := K1r_s2 (n : Int) (n : Int) (n : Int) P (n : Int) (n : Int) L0 (i : Int)) (fun (k : Nat) (L : List F) => (L, (k : Int))) (fun k L => sm L n i k (gm none P n k i)) (fun L => L) (fun _ L => Mat n n L) (lo := 0) (n := n) (Nat.zero_le _) (s0 := L) hL
      (fun k L2 _ hk h3 => by
        refine ⟨?_, h3.set _ _ _⟩
        show K1r_b2 _ _ _ _ _ _ _ _ _ _ = _
        unfold K1r_b2 K1q
        have l1 : decide ((sm L2 n i k (gm none P n k i)).length = L0.length) = true := by simp [h3.len, hL0.len]
        rw [dlt hk, bsel_true, K0p_eq _ m hk hi, obind_eq, obind_eq, K0r_eq _ h3 hi hk, obind_eq, l1, need_true, wsucc (by omega)]
        rfl)
      (fun L2 _ => by
        show K1r_b2 _ _ _ _ _ _ _ _ _ _ = _
        unfold K1r_b2
        rw [dnlt, bsel_false])).1
  have e := (loop_run (step := K1r_s3 (n : Int) (n : Int) (n : Int) (n : Int) P (n : Int) (n : Int) (List.replicate (n * n) (some 0))) (fun (i : Nat) (L : List F) => (L, (i : Int))) (fillR (fun i k => gm none P n k i) n) (fun L => L) (fun _ L => Mat n n L) (lo := 0) (n := n) (Nat.zero_le _) (s0 := List.replicate (n * n) (some 0)) (zmat hn hn)
    (fun i L2 _ hi h3 => by
      refine ⟨?_, (fillR_spec h3 hi).1⟩
      show K1r_b3 _ _ _ _ _ _ _ _ _ _ = _
      unfold K1r_b3
      rw [dlt hi, bsel_true, inner i L2 _ hi h3 (zmat hn hn), obind_eq, osum_inl]
      unfold K1r_k2
      rw [wsucc (by omega)]
      rfl)
    (fun L2 _ => by
      show K1r_b3 _ _ _ _ _ _ _ _ _ _ = _
      unfold K1r_b3
      rw [dnlt, bsel_false])).1
  unfold K1r
  replace e : loopM (K1r_s3 (n : Int) (n : Int) (n : Int) (n : Int) P (n : Int) (n : Int) (List.replicate (n * n) (some 0))) (List.replicate (n * n) (some 0), 0) = some (.inl (flipM n P)) := e
  rw [K1f_eq hn hn, obind3_eq, e]; rfl
theorem K1s_eq {n : Nat} {P : List F} (m : Mat n n P) : K1s (n : Int) (n : Int) P = some ((n : Int), (n : Int), flipM n P) := by
  unfold K1s
  rw [K1r_eq m, obind3_eq]
def diagL (n : Nat) (L : List F) : List F := (List.range n).map fun i => gm none L n i i
theorem diagL_len {n : Nat} {L : List F} : (diagL n L).length = n := by simp [diagL]
theorem K0x_eq {n : Nat} {L : List F} (m : Mat n n L) : K0x (n : Int) (n : Int) L = some (diagL n L) := by
  have hn := m.A1
  have hm : imin (n : Int) (n : Int) = (n : Int) := by simp [imin]
  have e := (loop_run (step := K0x_s1 (n : Int) (n : Int) L) (fun (i : Nat) (l : List F) => (l, (i : Int))) (fun i l => l ++ [gm none L n i i]) (fun l => l) (fun i l => l.length = i) (lo := 0) (n := n) (Nat.zero_le _) (s0 := []) rfl
    (fun i l _ hi hl => by
      refine ⟨?_, by simp [hl]⟩
      show K0x_b1 _ _ _ _ _ = _
      unfold K0x_b1
      dsimp only
      have ap : apok 4 l.length 1 = true := by simp [apok, hl]; omega
      rw [hm, dlt hi, bsel_true, K0p_eq _ m hi hi, obind_eq, ap, need_true, wsucc (by omega)]
      rfl)
    (fun l _ => by
      show K0x_b1 _ _ _ _ _ = _
      unfold K0x_b1
      rw [hm, dnlt, bsel_false])).1
  rw [Nat.sub_zero, run_map] at e
  unfold K0x
  replace e : loopM (K0x_s1 (n : Int) (n : Int) L) ([], 0) = some (.inl (diagL n L)) := e
  rw [e]; rfl
def swapG {α : Type} (d : α) (j : Nat) (L : List α) : List α := (L.set (j + 1) (L.getD j d)).set j (L.getD (j + 1) d)
def insG {α : Type} (d : α) (lt : α → α → Bool) : Nat → List α → List α
  | 0, L => L
  | j + 1, L => bif lt (L.getD (j + 1) d) (L.getD j d) then insG d lt j (swapG d j L) else L
theorem swapG_len {α : Type} {d : α} {j : Nat} {L : List α} : (swapG d j L).length = L.length := by simp [swapG]
theorem insG_len {α : Type} {d : α} {lt : α → α → Bool} : ∀ (j : Nat) (L : List α), (insG d lt j L).length = L.length
  | 0, _ => rfl
  | j + 1, L => by
    unfold insG
    cases lt (L.getD (j + 1) d) (L.getD j d) with
    | false => rfl
    | true => rw [cond_true, insG_len j, swapG_len]
theorem getD_appG {α : Type} {d : α} {P R : List α} {j : Nat} (h : j < P.length) : (P ++ R).getD j d = P.getD j d := by
  rw [List.getD_eq_getElem?_getD, List.getElem?_append_left h, ← List.getD_eq_getElem?_getD]
theorem swapG_app {α : Type} {d : α} {j : Nat} {P R : List α} (h : j + 1 < P.length) : swapG d j (P ++ R) = swapG d j P ++ R := by
  unfold swapG
  rw [getD_appG h, getD_appG (by omega), List.set_append_left _ _ h, List.set_append_left _ _ (by simp; omega)]
theorem insG_app {α : Type} {d : α} {lt : α → α → Bool} : ∀ (j : Nat) (P R : List α), j < P.length → insG d lt j (P ++ R) = insG d lt j P ++ R
  | 0, _, _, _ => rfl
  | j + 1, P, R, h => by
    unfold insG
    rw [getD_appG h, getD_appG (by omega)]
    cases lt (P.getD (j + 1) d) (P.getD j d) with
    | false => rfl
    | true => rw [cond_true, cond_true, swapG_app h]; exact insG_app j _ _ (by rw [swapG_len]; omega)
theorem swapG_end {α : Type} {d : α} (Q : List α) (a x : α) : swapG d Q.length (Q ++ [a, x]) = Q ++ [x, a] := by
  unfold swapG
  have e1 : (Q ++ [a, x]).getD Q.length d = a := by simp [List.getD_eq_getElem?_getD]
  have e2 : (Q ++ [a, x]).getD (Q.length + 1) d = x := by simp [List.getD_eq_getElem?_getD]
  rw [e1, e2, List.set_append_right _ _ (by omega), List.set_append_right _ _ (by omega)]
  simp
theorem insG_mem {α : Type} {d : α} {lt : α → α → Bool} : ∀ (j : Nat) (P : List α) (x : α), P.length = j → (insG d lt j (P ++ [x])).Perm (P ++ [x])
  | 0, _, _, _ => List.Perm.refl _
  | j + 1, P, x, h => by
    have hne : P ≠ [] := by intro e; rw [e] at h; cases h
    obtain ⟨Q, a, rfl⟩ : ∃ Q a, P = Q ++ [a] := ⟨P.dropLast, P.getLast hne, (List.dropLast_concat_getLast hne).symm⟩
    have hQ : Q.length = j := by simpa using h
    unfold insG
    have e0 : Q ++ [a] ++ [x] = Q ++ [a, x] := by simp
    have e1 : (Q ++ [a, x]).getD j d = a := by subst hQ; simp [List.getD_eq_getElem?_getD]
    have e2 : (Q ++ [a, x]).getD (j + 1) d = x := by subst hQ; simp [List.getD_eq_getElem?_getD]
    rw [e0, e1, e2]
    cases lt x a with
    | false => exact List.Perm.refl _
    | true =>
      rw [cond_true]
      have e3 : swapG d j (Q ++ [a, x]) = (Q ++ [x]) ++ [a] := by subst hQ; rw [swapG_end]; simp
      rw [e3, insG_app j _ _ (by simp; omega)]
      refine ((insG_mem j Q x hQ).append_right [a]).trans ?_
      rw [List.append_assoc]
      exact List.Perm.append_left Q (List.Perm.swap a x [])
theorem insG_sorted {α : Type} {d : α} {lt : α → α → Bool} (key : α → Nat) : ∀ (j : Nat) (P : List α) (x : α), P.length = j → (∀ a ∈ P, lt x a = decide (key x < key a)) → P.Pairwise (fun a b => key a ≤ key b) → (insG d lt j (P ++ [x])).Pairwise (fun a b => key a ≤ key b)
  | 0, P, x, h, _, _ => by
    have : P = [] := List.length_eq_zero_iff.1 h
    subst this
    simp [insG]
  | j + 1, P, x, h, hk, hp => by
    have hne : P ≠ [] := by intro e; rw [e] at h; cases h
    obtain ⟨Q, a, rfl⟩ : ∃ Q a, P = Q ++ [a] := ⟨P.dropLast, P.getLast hne, (List.dropLast_concat_getLast hne).symm⟩
    have hQ : Q.length = j := by simpa using h
    rw [List.pairwise_append] at hp
    obtain ⟨p1, _, p2⟩ := hp
    have p2 : ∀ q ∈ Q, key q ≤ key a := fun q hq => p2 q hq a (by simp)
    unfold insG
    have e0 : Q ++ [a] ++ [x] = Q ++ [a, x] := by simp
    have e1 : (Q ++ [a, x]).getD j d = a := by subst hQ; simp [List.getD_eq_getElem?_getD]
    have e2 : (Q ++ [a, x]).getD (j + 1) d = x := by subst hQ; simp [List.getD_eq_getElem?_getD]
    rw [e0, e1, e2, hk a (by simp)]
    by_cases hlt : key x < key a
    · rw [decide_eq_true hlt, cond_true]
      have e3 : swapG d j (Q ++ [a, x]) = (Q ++ [x]) ++ [a] := by subst hQ; rw [swapG_end]; simp
      rw [e3, insG_app j _ _ (by simp; omega), List.pairwise_append]
      refine ⟨insG_sorted key j Q x hQ (fun b hb => hk b (by simp [hb])) p1, by simp, fun b hb c hc => ?_⟩
      have hc : c = a := by simpa using hc
      subst hc
      have hb := (insG_mem j Q x hQ).mem_iff.1 hb
      rcases List.mem_append.1 hb with hb | hb
      · exact p2 b hb
      · have : b = x := by simpa using hb
        subst this; omega
    · rw [decide_eq_false hlt, cond_false, ← e0, List.pairwise_append, List.pairwise_append]
      refine ⟨⟨p1, by simp, fun q hq b hb => by have : b = a := by simpa using hb
                                                subst this; exact p2 q hq⟩, by simp, fun q hq b hb => ?_⟩
      have hb : b = x := by simpa using hb
      subst hb
      rcases List.mem_append.1 hq with hq | hq
      · have := p2 q hq; omega
      · have : q = a := by simpa using hq
        subst this; omega
def sortG {α : Type} (d : α) (lt : α → α → Bool) (L : List α) : Nat → List α
  | 0 => []
  | n + 1 => insG d lt n (sortG d lt L n ++ [L.getD n d])
theorem sortG_len {α : Type} {d : α} {lt : α → α → Bool} {L : List α} : ∀ n, (sortG d lt L n).length = n
  | 0 => rfl
  | n + 1 => by unfold sortG; rw [insG_len]; simp [sortG_len n]
theorem sortG_perm {α : Type} {d : α} {lt : α → α → Bool} {L : List α} : ∀ n, n ≤ L.length → (sortG d lt L n).Perm (L.take n)
  | 0, _ => by simp [sortG]
  | n + 1, h => by
    unfold sortG
    refine (insG_mem n _ _ (sortG_len n)).trans ?_
    rw [List.take_succ_eq_append_getElem (by omega)]
    have : L.getD n d = L[n] := by
      rw [List.getD_eq_getElem?_getD, List.getElem?_eq_getElem (by omega)]; rfl
    rw [this]
    exact (sortG_perm n (by omega)).append_right _
theorem sortG_mem {α : Type} {d : α} {lt : α → α → Bool} {L : List α} {n : Nat} (h : n ≤ L.length) {x : α} (hx : x ∈ sortG d lt L n) : x ∈ L := List.mem_of_mem_take ((sortG_perm n h).mem_iff.1 hx)
theorem sortG_sorted {α : Type} {d : α} {lt : α → α → Bool} {L : List α} (key : α → Nat) (hk : ∀ a ∈ L, ∀ b ∈ L, lt a b = decide (key a < key b)) : ∀ n, n ≤ L.length → (sortG d lt L n).Pairwise (fun a b => key a ≤ key b)
  | 0, _ => by simp [sortG]
  | n + 1, h => by
    unfold sortG
    refine insG_sorted key n _ _ (sortG_len n) (fun a ha => hk _ ?_ a (sortG_mem (by omega) ha)) (sortG_sorted key hk n (by omega))
    have : L.getD n d = L[n] := by
      rw [List.getD_eq_getElem?_getD, List.getElem?_eq_getElem (by omega)]; rfl
    rw [this]
    exact List.getElem_mem _
theorem wpredG {j : Nat} (h : j ≤ 1000000000) : IntKind.i64.wrap (((j + 1 : Nat) : Int) - 1) = (j : Int) := by rw [wrap_i64 (by omega) (by omega)]; omega
theorem loop_insG {α β ρ : Type} {d : α} {lt : α → α → Bool} {step : β × Int → Option (LR (β × Int) β ρ)} (f : List α → β) (h0 : ∀ L, step (f L, 0) = some (.out (f L))) (Ok : List α → Prop) (hok : ∀ j L, Ok L → j + 1 < L.length → Ok (swapG d j L))
    (hs : ∀ (j : Nat) (L : List α), Ok L → j + 1 < L.length → L.length ≤ 1000000 → step (f L, ((j + 1 : Nat) : Int)) = some (bif lt (L.getD (j + 1) d) (L.getD j d) then .next (f (swapG d j L), (j : Int)) else .out (f L))) :
    ∀ (j : Nat) (L : List α), Ok L → j < L.length → L.length ≤ 1000000 → loopM step (f L, (j : Int)) = some (.inl (f (insG d lt j L)))
  | 0, L, _, _, _ => loopM_out (h0 L)
  | j + 1, L, h, hj, hl => by
    have e := hs j L h hj hl
    unfold insG
    cases hc : lt (L.getD (j + 1) d) (L.getD j d) with
    | false => rw [hc, cond_false] at e; rw [loopM_out e]; rfl
    | true =>
      rw [hc, cond_true] at e
      rw [loopM_next e, cond_true]
      exact loop_insG f h0 Ok hok hs j _ (hok j L h hj) (by rw [swapG_len]; omega) (by rw [swapG_len]; omega)
theorem loop_sortG {α ρ : Type} {d : α} {lt : α → α → Bool} {step : List α × Int → Option (LR (List α × Int) (List α) ρ)} {R : List α} {n : Nat} (hR : R.length = n) (h0 : 0 < n)
    (hs : ∀ (i : Nat) (L : List α), 1 ≤ i → i < n → L.length = n → (∀ x ∈ L, x ∈ R) → step (L, (i : Int)) = some (.next (insG d lt i L, ((i + 1 : Nat) : Int)))) (he : ∀ L, step (L, (n : Int)) = some (.out L)) : loopM step (R, 1) = some (.inl (sortG d lt R n)) := by
  have hd : ∀ i, i < n → R.drop i = R.getD i d :: R.drop (i + 1) := fun i hi => by
    rw [List.drop_eq_getElem_cons (by omega)]
    congr 1
    rw [List.getD_eq_getElem?_getD, List.getElem?_eq_getElem (by omega)]; rfl
  have e := (loop_run (step := step) (fun (i : Nat) (_ : Unit) => (sortG d lt R i ++ R.drop i, (i : Int))) (fun _ _ => ()) (fun _ => sortG d lt R n) (fun _ _ => True) (lo := 1) (n := n) h0 (s0 := ()) trivial
    (fun i _ h1 hi _ => by
      refine ⟨?_, trivial⟩
      rw [hs i _ h1 hi (by rw [List.length_append, sortG_len, List.length_drop]; omega) (fun x hx => by
        rcases List.mem_append.1 hx with hx | hx
        · exact sortG_mem (by omega) hx
        · exact List.mem_of_mem_drop hx)]
      rw [hd i hi]
      have : sortG d lt R i ++ R.getD i d :: R.drop (i + 1) = (sortG d lt R i ++ [R.getD i d]) ++ R.drop (i + 1) := by simp
      rw [this, insG_app i _ _ (by simp [sortG_len])]
      rfl)
    (fun _ _ => by
      rw [he, List.drop_of_length_le (by omega), List.append_nil])).1
  have h1 : sortG d lt R 1 ++ R.drop 1 = R := by
    show [] ++ [R.getD 0 d] ++ R.drop 1 = R
    have := hd 0 h0
    rw [List.drop_zero] at this
    rw [List.nil_append, List.singleton_append, ← this]
  replace e : loopM step (sortG d lt R 1 ++ R.drop 1, 1) = some (.inl (sortG d lt R n)) := e
  rw [h1] at e
  exact e
theorem upTo_getD {n m : Nat} (h : n < m) : (upTo m).getD n 0 = (n : Int) := by
  simp [upTo, List.getD_eq_getElem?_getD, List.getElem?_range, h]
theorem upTo_mem {n : Nat} {x : Int} (h : x ∈ upTo n) : 0 ≤ x ∧ x < (n : Int) := by
  simp [upTo] at h
  obtain ⟨q, hq, rfl⟩ := h
  omega
def ltI (x y : Int) : Bool := decide (x < y)
theorem K17_eq (x y : Int) : K17 x y = some (ltI x y) := by
  unfold K17 K16
  rw [obind_eq, decide_eq_true (rfl : x = x)]
  rfl
theorem K18_eq {R : List Int} {n : Nat} (hR : R.length = n) (hn : n ≤ 12) : K18 0 (n : Int) R = some (sortG 0 ltI R n) := by
  have inner : ∀ (j : Nat) (L : List Int), j < L.length → L.length ≤ 1000000 → loopM (K18_s2 0) (L, (j : Int)) = some (.inl (insG 0 ltI j L)) := fun j L hj hl =>
    loop_insG (fun L => L) (fun L => by
      show K18_b2 _ _ _ = _
      unfold K18_b2
      rw [show decide ((0 : Int) < 0) = false from rfl, bsel_false]) (fun _ => True) (fun _ _ _ _ => trivial) (fun j L _ hj hl => by
      show K18_b2 _ _ _ = _
      unfold K18_b2
      dsimp only
      have hd : decide ((0 : Int) < ((j + 1 : Nat) : Int)) = true := decide_eq_true (by omega)
      have l1 : ∀ x : Int, j < (L.set (j + 1) x).length := fun x => by simp; omega
      rw [hd, bsel_true, at?_n 0 hj, obind_eq, wpredG (by omega), olet_eq, at?_n 0 (by omega), obind_eq, K17_eq, obind_eq]
      cases ltI (L.getD (j + 1) 0) (L.getD j 0) with
      | false => rfl
      | true =>
        rw [bsel_true, olet_eq, olet_eq, at?_n 0 (by omega), obind_eq, obind_eq, setAt?_n _ hj, obind_eq, setAt?_n _ (l1 _), obind_eq, olet_eq]
        rfl) j L trivial hj hl
  unfold K18
  rw [show IntKind.i64.wrap (0 + 1) = 1 from rfl, olet_eq]
  have he : ∀ (L : List Int) (k : Int), (n : Int) ≤ k → K18_s3 0 (n : Int) (L, k) = some (.out L) := fun L k hk => by
    show K18_b3 _ _ _ _ = _
    unfold K18_b3
    dsimp only
    rw [show decide (k < (n : Int)) = false from decide_eq_false (by omega), bsel_false]
  by_cases h0 : 0 < n
  · have e := loop_sortG (d := 0) (lt := ltI) (step := K18_s3 0 (n : Int)) hR h0
      (fun i L h1 hi hl _ => by
        show K18_b3 _ _ _ _ = _
        unfold K18_b3
        dsimp only
        rw [dlt hi, bsel_true, inner i L (by omega) (by omega), obind_eq, osum_inl]
        unfold K18_k2
        rw [wsucc (by omega)]; rfl)
      (fun L => he L n (Int.le_refl _))
    rw [e]; rfl
  · have hn0 : n = 0 := by omega
    subst hn0
    have : R = [] := List.length_eq_zero_iff.1 hR
    subst this
    rw [loopM_out (he [] 1 (by omega))]; rfl
theorem bitsLen_some {n : Nat} (h : n ≤ 12) : ∃ r, K15 (n : Int) = some r := by
  have hn : n = 0 ∨ n = 1 ∨ n = 2 ∨ n = 3 ∨ n = 4 ∨ n = 5 ∨ n = 6 ∨ n = 7 ∨ n = 8 ∨ n = 9 ∨ n = 10 ∨ n = 11 ∨ n = 12 := by omega
  have : (K15 (n : Int)).isSome = true := by
    rcases hn with rfl | rfl | rfl | rfl | rfl | rfl | rfl | rfl | rfl | rfl | rfl | rfl | rfl <;> kernel_rfl
  exact Option.isSome_iff_exists.1 this
theorem K1a_eq {R : List Int} (hn : R.length ≤ 12) : K1a R = some (sortG 0 ltI R R.length) := by
  unfold K1a K19
  obtain ⟨r, hr⟩ := bitsLen_some hn
  have hw : IntKind.u64.wrap ((R.length : Nat) : Int) = ((R.length : Nat) : Int) := by
    simp only [IntKind.wrap, IntKind.bits, IntKind.signed]
    simp
    omega
  have e : loopM (K19_s1 0 ((R.length : Nat) : Int) r R) () = some (.inr (sortG 0 ltI R R.length)) := by
    refine loopM_ret ?_
    show K19_b1 _ _ _ _ = _
    unfold K19_b1
    have h1 : IntKind.i64.wrap ((R.length : Int) - 0) = (R.length : Int) := by rw [wrap_i64 (by omega) (by omega)]; omega
    rw [h1, olet_eq, show decide ((R.length : Int) ≤ 12) = true from decide_eq_true (by omega), bsel_true, K18_eq rfl hn, obind_eq, sortG_len, decide_eq_true rfl, need_true]
  rw [hw, olet_eq, hr, obind_eq, e, obind_eq, osum_inr, obind_eq, sortG_len, decide_eq_true rfl, need_true]
def GoodO (n : Nat) (L : List Int) : Prop := (∀ x ∈ L, 0 ≤ x ∧ x < (n : Int)) ∧ L.Nodup
theorem upTo_nodup {n : Nat} : (upTo n).Nodup := by
  unfold upTo List.Nodup
  rw [List.pairwise_map]
  exact List.Pairwise.imp (fun {a b} h e => h (Int.ofNat.inj e)) (List.nodup_range (n := n))
theorem mem_upTo {n : Nat} {x : Int} : x ∈ upTo n ↔ 0 ≤ x ∧ x < (n : Int) := by
  refine ⟨upTo_mem, fun h => ?_⟩
  unfold upTo
  rw [List.mem_map]
  exact ⟨x.toNat, List.mem_range.2 (by omega), by omega⟩
theorem good_perm {n : Nat} {L : List Int} (hl : L.length = n) (h : GoodO n L) : L.Perm (upTo n) := by
  refine (List.perm_ext_iff_of_nodup h.2 upTo_nodup).2 fun x => ⟨fun hx => mem_upTo.2 (h.1 x hx), fun hx => ?_⟩
  by_cases hm : x ∈ L
  · exact hm
  · exfalso
    have := List.Nodup.length_le_of_subset (l₁ := x :: L) (l₂ := upTo n) (List.nodup_cons.2 ⟨hm, h.2⟩) (fun y hy => by
      rcases List.mem_cons.1 hy with rfl | hy
      · exact hx
      · exact mem_upTo.2 (h.1 y hy))
    simp [upTo_len] at this
    omega
theorem good_sorted {n : Nat} {L : List Int} (hl : L.length = n) : sortG 0 ltI L n = upTo n ↔ GoodO n L := by
  have p := sortG_perm (d := 0) (lt := ltI) (L := L) n (by omega)
  rw [List.take_of_length_le (by omega)] at p
  constructor
  · intro e
    rw [e] at p
    exact ⟨fun x hx => mem_upTo.1 (p.mem_iff.2 hx), p.nodup_iff.1 upTo_nodup⟩
  · intro h
    have s1 := sortG_sorted (d := 0) (lt := ltI) (L := L) Int.toNat (fun a ha b hb => by
      have := h.1 a ha
      have := h.1 b hb
      unfold ltI
      by_cases hlt : a < b
      · rw [decide_eq_true hlt, decide_eq_true (by omega)]
      · rw [decide_eq_false hlt, decide_eq_false (by omega)]) n (by omega)
    have s2 : (upTo n).Pairwise (fun a b => a.toNat ≤ b.toNat) := by
      unfold upTo
      rw [List.pairwise_map]
      refine List.Pairwise.imp (fun {a b} (h : a < b) => ?_) (List.pairwise_lt_range (n := n))
      show (a : Int).toNat ≤ (b : Int).toNat
      omega
    refine List.Perm.eq_of_pairwise (le := fun a b => a.toNat ≤ b.toNat) (fun a b ha hb h1 h2 => ?_) s1 s2 (p.trans (good_perm hl h))
    have ha := h.1 a (p.mem_iff.1 ha)
    have hb := mem_upTo.1 hb
    omega
def ordQ (l : List Int) (i : Nat) (fl : List Bool) : List Bool ⊕ Bool :=
  bif decide (0 ≤ l.getD i 0) && decide (l.getD i 0 < (l.length : Int)) then (bif fl.getD (l.getD i 0).toNat false then .inr false else .inl (fl.set (l.getD i 0).toNat true)) else .inr false
theorem ord_run {l : List Int} {n : Nat} (hn : l.length = n) : ∀ (m i : Nat) (fl : List Bool), i + m = n → fl.length = n → (∀ x : Nat, x < n → fl.getD x false = decide ((x : Int) ∈ l.take i)) → GoodO n (l.take i) →
    (∃ s', runE (ordQ l) i m fl = .inl s' ∧ GoodO n l) ∨ (runE (ordQ l) i m fl = .inr false ∧ ¬ GoodO n l)
  | 0, i, fl, h, _, _, hg => by
    rw [List.take_of_length_le (by omega)] at hg
    exact .inl ⟨fl, rfl, hg⟩
  | m + 1, i, fl, h, hl, hf, hg => by
    have hi : i < l.length := by omega
    have hx : l.getD i 0 = l[i] := by rw [List.getD_eq_getElem?_getD, List.getElem?_eq_getElem hi]; rfl
    have ht : l.take (i + 1) = l.take i ++ [l[i]] := List.take_succ_eq_append_getElem hi
    have eQ : ordQ l i fl = bif decide (0 ≤ l[i]) && decide (l[i] < (n : Int)) then (bif fl.getD l[i].toNat false then .inr false else .inl (fl.set l[i].toNat true)) else .inr false := by
      unfold ordQ
      rw [hx, hn]
    simp only [runE]
    rw [eQ]
    cases hr : decide (0 ≤ l[i]) && decide (l[i] < (n : Int)) with
    | false =>
      rw [cond_false]
      refine .inr ⟨rfl, fun hG => ?_⟩
      have := hG.1 l[i] (List.getElem_mem _)
      simp only [Bool.and_eq_false_iff, decide_eq_false_iff_not] at hr
      omega
    | true =>
      simp only [Bool.and_eq_true, decide_eq_true_eq] at hr
      have hc := hf l[i].toNat (by omega)
      rw [show ((l[i].toNat : Nat) : Int) = l[i] by omega] at hc
      rw [cond_true, hc]
      by_cases hm : l[i] ∈ l.take i
      · rw [decide_eq_true hm, cond_true]
        refine .inr ⟨rfl, fun hG => ?_⟩
        have hN : (l.take (i + 1)).Nodup := List.Pairwise.sublist (List.take_sublist _ _) hG.2
        rw [ht] at hN
        have := (List.nodup_append.1 hN).2.2 _ hm _ (List.mem_singleton.2 rfl)
        exact this rfl
      · rw [decide_eq_false hm, cond_false]
        refine ord_run hn m (i + 1) (fl.set l[i].toNat true) (by omega) (by rw [List.length_set]; exact hl) (fun x hx2 => ?_) ⟨fun x hx2 => ?_, ?_⟩
        · have hmem : (x : Int) ∈ l.take (i + 1) ↔ (x : Int) ∈ l.take i ∨ (x : Int) = l[i] := by rw [ht, List.mem_append, List.mem_singleton]
          have hxl : x < fl.length := by omega
          rw [List.getD_eq_getElem?_getD, List.getElem?_set]
          by_cases e : l[i].toNat = x
          · rw [if_pos e, if_pos (by omega)]
            exact (decide_eq_true (hmem.2 (.inr (by omega)))).symm
          · rw [if_neg e, ← List.getD_eq_getElem?_getD, hf x hx2]
            have hne : ¬ (x : Int) = l[i] := by omega
            by_cases h3 : (x : Int) ∈ l.take i
            · rw [decide_eq_true h3, decide_eq_true (hmem.2 (.inl h3))]
            · rw [decide_eq_false h3, decide_eq_false (fun h4 => (hmem.1 h4).elim h3 hne)]
        · rw [ht] at hx2
          rcases List.mem_append.1 hx2 with h3 | h3
          · exact hg.1 x h3
          · rw [List.mem_singleton.1 h3]; exact hr
        · rw [ht]
          refine List.nodup_append.2 ⟨hg.2, by simp, fun a ha b hb e => ?_⟩
          rw [List.mem_singleton.1 hb] at e
          exact hm (e ▸ ha)
def ordB (l : List Int) : Bool := decide (1 ≤ l.length) && (decide (l.length ≤ 12) && decide (sortG 0 ltI l l.length = upTo l.length))
theorem K2e_eq (l : List Int) : K2e l = some (ordB l) := by
  unfold K2e ordB
  by_cases h1 : 1 ≤ l.length
  · rw [show decide ((l.length : Int) < 1) = false from decide_eq_false (by omega), bsel_false, decide_eq_true h1, Bool.true_and]
    by_cases h2 : l.length ≤ 12
    · have hk : mkok 1 (l.length : Int) = true := by simp [mkok]; omega
      rw [show decide (12 < (l.length : Int)) = false from decide_eq_false (by omega), bsel_false, decide_eq_true h2, Bool.true_and, hk, need_true]
      obtain ⟨e, _⟩ := loop_endE (step := K2e_s1 l) (fun (i : Nat) (fl : List Bool) => (fl, (i : Int))) (ordQ l) (fun _ => ()) (fun _ fl => fl.length = l.length) (lo := 0) (n := l.length) (Nat.zero_le _) (s0 := List.replicate l.length false) (by simp)
        (fun i fl _ hi hl => by
          have hstep : K2e_s1 l (fl, (i : Int)) = K2e_b1 l fl (i : Int) := rfl
          have hw : IntKind.i64.wrap ((l.length : Int) - 1) = (l.length : Int) - 1 := wrap_i64 (by omega) (by omega)
          have hb : decide (l.getD i 0 ≤ (l.length : Int) - 1) = decide (l.getD i 0 < (l.length : Int)) := by
            by_cases h : l.getD i 0 < (l.length : Int)
            · rw [decide_eq_true h, decide_eq_true (by omega)]
            · rw [decide_eq_false h, decide_eq_false (by omega)]
          rw [hstep]
          unfold K2e_b1 ordQ
          rw [dlt hi, bsel_true, at?_n 0 hi, obind_eq, hw, olet_eq, K2d_eq, hb, obind_eq]
          cases hr : decide (0 ≤ l.getD i 0) && decide (l.getD i 0 < (l.length : Int)) with
          | false => exact .inr ⟨false, by rw [cond_false], by rw [bsel_false]⟩
          | true =>
            simp only [Bool.and_eq_true, decide_eq_true_eq] at hr
            have hz : l.getD i 0 = ((l.getD i 0).toNat : Int) := by omega
            have hlt : (l.getD i 0).toNat < fl.length := by omega
            rw [cond_true, bsel_true, obind_eq]
            have ha : at? fl (l.getD i 0) = some (fl.getD (l.getD i 0).toNat false) := by rw [hz]; exact at?_n false hlt
            have hs : setAt? fl (l.getD i 0) true = some (fl.set (l.getD i 0).toNat true) := by rw [hz]; exact setAt?_n _ hlt
            rw [ha, obind_eq]
            cases fl.getD (l.getD i 0).toNat false with
            | true => exact .inr ⟨false, by rw [cond_true], by rw [bsel_true]⟩
            | false => exact .inl ⟨_, by rw [cond_false], by rw [bsel_false, obind_eq, hs, obind_eq, wsucc (by omega)]; rfl, by simp [hl]⟩)
        (fun fl _ => by
          show K2e_b1 _ _ _ = _
          unfold K2e_b1
          rw [dnlt, bsel_false])
      rw [Nat.sub_zero] at e
      have e : loopM (K2e_s1 l) (List.replicate (l.length : Int).toNat false, 0) = some (endE (fun _ => ()) (runE (ordQ l) 0 l.length (List.replicate l.length false))) := e
      rw [e]
      rcases ord_run (l := l) rfl l.length 0 (List.replicate l.length false) (by omega) (by simp) (fun x hx => by simp [List.getD_eq_getElem?_getD, List.getElem?_replicate, hx]) ⟨by simp, by simp⟩ with ⟨s', h3, h4⟩ | ⟨h3, h4⟩
      · rw [h3, decide_eq_true ((good_sorted rfl).2 h4)]; rfl
      · rw [h3, decide_eq_false (fun h5 => h4 ((good_sorted rfl).1 h5))]; rfl
    · rw [show decide (12 < (l.length : Int)) = true from decide_eq_true (by omega), bsel_true, decide_eq_false h2, Bool.false_and]
  · rw [show decide ((l.length : Int) < 1) = true from decide_eq_true (by omega), bsel_true, decide_eq_false h1, Bool.false_and]
theorem x_slices_Sorted_eq {l : List Int} (h : l.length ≤ 12) : K1b l = some (sortG 0 ltI l l.length) := by
  unfold K1b K13 K12
  rw [show decide ((l.length : Int) * 8 ≤ 140737488351232) = true from decide_eq_true (by omega), need_true, obind_eq, obind_eq, K1a_eq h, obind_eq, sortG_len, decide_eq_true rfl, need_true]
theorem K1d_eq (l : List Int) : K1d l = some (ordB l) := by
  unfold K1d K10 ordB
  rw [obind_eq, K09_eq, obind_eq]
  unfold side
  by_cases h1 : 1 ≤ l.length
  · rw [decide_eq_true (show (1 : Int) ≤ (l.length : Int) by omega), decide_eq_true h1, Bool.true_and, Bool.true_and]
    by_cases h2 : l.length ≤ 12
    · rw [decide_eq_true (show (l.length : Int) ≤ 12 by omega), decide_eq_true h2, Bool.true_and, bsel_true]
      unfold K1c K11
      rw [obind_eq, x_slices_Sorted_eq h2, obind_eq]
      have e := loop_eq (l := sortG 0 ltI l l.length) (m := upTo l.length) (by rw [sortG_len, upTo_len]) (step := K1c_s1 (sortG 0 ltI l l.length)) (fun v x y h0 h1 hx hy => by
        rw [sortG_len] at h1
        have hv : v = ((v.toNat : Nat) : Int) := by omega
        have hlt : v.toNat < l.length := by omega
        have hy : y = v := by
          have := upTo_getD hlt
          rw [List.getD_eq_getElem?_getD, hy] at this
          have : y = (v.toNat : Int) := this
          omega
        subst hy
        have ha : at? (sortG 0 ltI l l.length) y = some x := at?_of h0 hx
        show K1c_b1 _ _ = _
        unfold K1c_b1
        rw [sortG_len, show decide (y < ((l.length : Nat) : Int)) = true from decide_eq_true (by omega), bsel_true, ha, obind_eq, wrap_i64 (by omega) (by omega)]
        by_cases e : x = y
        · rw [if_pos e, decide_eq_true e]; rfl
        · rw [if_neg e, decide_eq_false e]; rfl) (by
        show K1c_b1 _ _ = _
        unfold K1c_b1
        rw [dnlt, bsel_false])
      rw [e]
      by_cases hs : sortG 0 ltI l l.length = upTo l.length
      · rw [if_pos hs, decide_eq_true hs]; rfl
      · rw [if_neg hs, decide_eq_false hs]; rfl
    · rw [decide_eq_false (show ¬ (l.length : Int) ≤ 12 by omega), decide_eq_false h2, Bool.false_and, bsel_false]
  · rw [decide_eq_false (show ¬ (1 : Int) ≤ (l.length : Int) by omega), decide_eq_false h1, Bool.false_and, Bool.false_and, bsel_false]
def lessG (f : Nat → F) (L : List F) (lo m : Nat) (y : F) : F := run (fun k s => fop .sub .f32 s (fop .mul .f32 (f k) (L.getD k none))) lo m y
theorem lessG_ok {f : Nat → F} {L : List F} {lo m : Nat} {y : F} (h : FOk .f32 y) : FOk .f32 (lessG f L lo m y) := by
  have := run_inv (f := fun k s => fop .sub .f32 s (fop .mul .f32 (f k) (L.getD k none))) (fun _ s => FOk .f32 s) m lo y h fun _ _ _ _ _ => fop_fok _ _ _
  exact this
theorem lessG_app {f : Nat → F} {L R : List F} {m : Nat} {y : F} (h : m ≤ L.length) : lessG f (L ++ R) 0 m y = lessG f L 0 m y :=
  run_congr (fun _ _ => True) m 0 y trivial fun j s _ hj _ => ⟨by rw [getD_appG (by omega)], trivial⟩
theorem loop_less {σ : Type} {ρ : Type} {step : F × Int → Option (LR (F × Int) F ρ)} {f : Nat → F} {L : List F} {lo n : Nat} (hlo : lo ≤ n) {y : F}
    (hs : ∀ k s, lo ≤ k → k < n → step (s, (k : Int)) = some (.next (fop .sub .f32 s (fop .mul .f32 (f k) (L.getD k none)), ((k + 1 : Nat) : Int)))) (he : ∀ s, step (s, (n : Int)) = some (.out s)) : loopM step (y, (lo : Int)) = some (.inl (lessG f L lo (n - lo) y)) :=
  (loop_run (step := step) (fun (k : Nat) (s : F) => (s, (k : Int))) (fun k s => fop .sub .f32 s (fop .mul .f32 (f k) (L.getD k none))) (fun s => s) (fun _ _ => True) hlo (s0 := y) trivial (fun k s h1 h2 _ => ⟨hs k s h1 h2, trivial⟩) (fun s _ => he s)).1
def lowL (h : Nat → F → List F → F) (c : List F) : Nat → List F
  | 0 => []
  | i + 1 => lowL h c i ++ [h i (c.getD i none) (lowL h c i)]
theorem lowL_len {h : Nat → F → List F → F} {c : List F} : ∀ i, (lowL h c i).length = i
  | 0 => rfl
  | i + 1 => by simp [lowL, lowL_len i]
theorem lowL_oks {h : Nat → F → List F → F} {c : List F} (hh : ∀ i y L, FOk .f32 y → FOk .f32 (h i y L)) (hc : FOks c) : ∀ i, FOks (lowL h c i)
  | 0 => fun x hx => by cases hx
  | i + 1 => fun x hx => by
    rcases List.mem_append.1 hx with hx | hx
    · exact lowL_oks hh hc i x hx
    · rw [List.mem_singleton.1 hx]; exact hh _ _ _ (hc.getD _)
theorem lowL_set {h : Nat → F → List F → F} {c : List F} {i : Nat} (hi : i < c.length) : (lowL h c i ++ c.drop i).set i (h i (c.getD i none) (lowL h c i)) = lowL h c (i + 1) ++ c.drop (i + 1) := by
  have e : c.drop i = c.getD i none :: c.drop (i + 1) := by
    rw [List.drop_eq_getElem_cons hi]
    congr 1
    rw [List.getD_eq_getElem?_getD, List.getElem?_eq_getElem hi]; rfl
  rw [List.set_append_right _ _ (by rw [lowL_len]; exact Nat.le_refl _), lowL_len, Nat.sub_self, e]
  show lowL h c i ++ (_ :: _) = (lowL h c i ++ [_]) ++ _
  simp
theorem lowL_get {h : Nat → F → List F → F} {c : List F} {i : Nat} (hi : i < c.length) : (lowL h c i ++ c.drop i).getD i none = c.getD i none := by
  rw [List.getD_eq_getElem?_getD, List.getElem?_append_right (by rw [lowL_len]; exact Nat.le_refl _), lowL_len, Nat.sub_self, List.getElem?_drop, Nat.add_zero, ← List.getD_eq_getElem?_getD]
def upL (h : Nat → F → List F → F) (n : Nat) (L : List F) : List F := run (fun j L => L.set (n - 1 - j) (h (n - 1 - j) (L.getD (n - 1 - j) none) L)) 0 n L
theorem upL_len {h : Nat → F → List F → F} {n : Nat} {L : List F} : (upL h n L).length = L.length := by
  have := run_inv (f := fun j L => L.set (n - 1 - j) (h (n - 1 - j) (L.getD (n - 1 - j) none) L)) (fun _ (L' : List F) => L'.length = L.length) n 0 L rfl (fun j s _ _ hs => by simp [hs])
  exact this
theorem upL_oks {h : Nat → F → List F → F} {n : Nat} {L : List F} (hh : ∀ i y L, FOk .f32 y → FOk .f32 (h i y L)) (g : FOks L) : FOks (upL h n L) := by
  have := run_inv (f := fun j L => L.set (n - 1 - j) (h (n - 1 - j) (L.getD (n - 1 - j) none) L)) (fun _ (L' : List F) => FOks L') n 0 L g (fun j s _ _ hs => hs.set (hh _ _ _ (hs.getD _)))
  exact this
theorem loop_up {ρ : Type} {step : List F × Int → Option (LR (List F × Int) (List F) ρ)} {h : Nat → F → List F → F} {n : Nat} {L : List F} (hl : L.length = n)
    (hs : ∀ i L, i < n → L.length = n → step (L, (i : Int)) = some (.next (L.set i (h i (L.getD i none) L), (i : Int) - 1))) (he : ∀ L, step (L, -1) = some (.out L)) : loopM step (L, (n : Int) - 1) = some (.inl (upL h n L)) := by
  have e := (loop_run (step := step) (fun (j : Nat) (L : List F) => (L, (n : Int) - 1 - (j : Int))) (fun j L => L.set (n - 1 - j) (h (n - 1 - j) (L.getD (n - 1 - j) none) L)) (fun L => L) (fun _ L => L.length = n) (lo := 0) (n := n) (Nat.zero_le _) (s0 := L) hl
    (fun j L2 _ hj hI => by
      refine ⟨?_, by simp [hI]⟩
      have hz : (n : Int) - 1 - (j : Int) = ((n - 1 - j : Nat) : Int) := by omega
      rw [hz, hs _ _ (by omega) hI]
      have hz2 : (n : Int) - 1 - ((j + 1 : Nat) : Int) = ((n - 1 - j : Nat) : Int) - 1 := by omega
      rw [hz2])
    (fun L2 _ => by rw [show (n : Int) - 1 - (n : Int) = -1 by omega, he])).1
  rw [show ((n : Int) - 1 - ((0 : Nat) : Int)) = (n : Int) - 1 by omega, Nat.sub_zero] at e
  exact e
def rowH (n : Nat) (X : List F) (i : Nat) (y : F) (L : List F) : F := lessG (fun k => gm none X n i k) L 0 i y
def upH (n : Nat) (X : List F) (i : Nat) (y : F) (L : List F) : F := fop .quo .f32 (lessG (fun k => gm none X n i k) L (i + 1) (n - (i + 1)) y) (gm none X n i i)
theorem K1k_eq {n i lo hi : Nat} {X L : List F} {y : F} (m : Mat n n X) (hl : L.length = n) (hi2 : i < n) (h1 : lo ≤ hi) (h2 : hi ≤ n) : K1k (n : Int) (n : Int) X y (i : Int) (lo : Int) (hi : Int) L = some (lessG (fun k => gm none X n i k) L lo (hi - lo) y) := by
  have hn := m.A1
  unfold K1k
  rw [loop_less (σ := Unit) (f := fun k => gm none X n i k) (L := L) h1 (fun k s _ hk => by
    show K1k_b1 _ _ _ _ _ _ _ _ = _
    unfold K1k_b1
    rw [dlt hk, bsel_true, K0p_eq _ m hi2 (by omega), obind_eq, at?_n none (by omega), obind_eq, K0u_eq, obind_eq, olet_eq, wsucc (by omega)]
    rfl) (fun s => by
    show K1k_b1 _ _ _ _ _ _ _ _ = _
    unfold K1k_b1
    rw [dnlt, bsel_false])]
  rfl
theorem K1l_eq {n : Nat} {X L : List F} (m : Mat n n X) (hl : L.length = n) : K1l (n : Int) (n : Int) X L = some (upL (upH n X) n L) := by
  have hn := m.A1
  unfold K1l K0m
  have ap : apok 4 0 L.length = true := by simp [apok]; omega
  rw [ap, need_true, obind_eq, List.nil_append, show IntKind.i64.wrap ((n : Int) - 1) = (n : Int) - 1 from wrap_i64 (by omega) (by omega), olet_eq]
  rw [loop_up (h := upH n X) hl (fun i L2 hi h2 => by
    show K1l_b1 _ _ _ _ _ = _
    unfold K1l_b1
    dsimp only
    rw [show decide ((0 : Int) ≤ (i : Int)) = true from decide_eq_true (by omega), bsel_true, at?_n none (by omega), obind_eq, wsucc (by omega), olet_eq, K1k_eq m h2 hi (by omega) (Nat.le_refl _), obind_eq, K0p_eq _ m hi hi, obind_eq, olet_eq, setAt?_n _ (by omega), obind_eq, show IntKind.i64.wrap ((i : Int) - 1) = (i : Int) - 1 from wrap_i64 (by omega) (by omega)]
    rfl) (fun L2 => by
    show K1l_b1 _ _ _ _ _ = _
    unfold K1l_b1
    rfl)]
  rfl
def ordC (o : List Int) (b : List F) (n : Nat) : List F := (List.range n).map fun i => b.getD (o.getD i 0).toNat none
theorem ordC_len {o : List Int} {b : List F} {n : Nat} : (ordC o b n).length = n := by simp [ordC]
theorem ordC_oks {o : List Int} {b : List F} {n : Nat} (g : FOks b) : FOks (ordC o b n) := fun c hc => by
  obtain ⟨i, _, rfl⟩ := List.mem_map.1 hc
  exact g.getD _
theorem ordC_at {o : List Int} {b : List F} {n i : Nat} (h : i < n) : (ordC o b n).getD i none = b.getD (o.getD i 0).toNat none := by
  unfold ordC
  rw [List.getD_eq_getElem?_getD, List.getElem?_map, List.getElem?_range h]; rfl
theorem K1m_eq {n : Nat} {X b : List F} {o : List Int} (m : Mat n n X) (n0 : 0 < n) (hb : b.length = n) (ho : o.length = n) (hr : ∀ i, i < n → 0 ≤ o.getD i 0 ∧ o.getD i 0 < (n : Int)) : K1m (n : Int) (n : Int) X o b = some (upL (upH n X) n (lowL (rowH n X) (ordC o b n) n)) := by
  have hn := m.A1
  have e1 := (loop_run (step := K1m_s1 o b) (fun (i : Nat) (l : List F) => (l, (i : Int))) (fun i l => l ++ [b.getD (o.getD i 0).toNat none]) (fun l => l) (fun i l => l.length = i) (lo := 0) (n := n) (Nat.zero_le _) (s0 := []) rfl
    (fun i l _ hi hI => by
      refine ⟨?_, by simp [hI]⟩
      show K1m_b1 _ _ _ _ = _
      unfold K1m_b1
      dsimp only
      have ap : apok 4 l.length 1 = true := by simp [apok, hI]; omega
      have h := hr i hi
      rw [ho, dlt hi, bsel_true, at?_n 0 (by omega), obind_eq, at?_i none h.1 (by omega), obind_eq, ap, need_true, wsucc (by omega)]
      rfl)
    (fun l _ => by
      show K1m_b1 _ _ _ _ = _
      unfold K1m_b1
      rw [ho, dnlt, bsel_false])).1
  rw [Nat.sub_zero, run_map] at e1
  replace e1 : loopM (K1m_s1 o b) ([], 0) = some (.inl (ordC o b n)) := e1
  have lc : (ordC o b n).length = n := ordC_len
  have e2 := (loop_run (step := K1m_s2 (n : Int) (n : Int) X) (fun (i : Nat) (_ : Unit) => (lowL (rowH n X) (ordC o b n) i ++ (ordC o b n).drop i, (i : Int))) (fun _ _ => ()) (fun _ => lowL (rowH n X) (ordC o b n) n) (fun _ _ => True) (lo := 1) (n := n) n0 (s0 := ()) trivial
    (fun i _ h1 hi _ => by
      refine ⟨?_, trivial⟩
      show K1m_b2 _ _ _ _ _ = _
      unfold K1m_b2
      dsimp only
      have hl : (lowL (rowH n X) (ordC o b n) i ++ (ordC o b n).drop i).length = n := by rw [List.length_append, lowL_len, List.length_drop]; omega
      rw [dlt hi, bsel_true, at?_n none (by omega), obind_eq, lowL_get (by omega), show (0 : Int) = ((0 : Nat) : Int) from rfl, K1k_eq m hl hi (Nat.zero_le _) (by omega), obind_eq, Nat.sub_zero, lessG_app (by rw [lowL_len]; exact Nat.le_refl _), setAt?_n _ (by omega), obind_eq, wsucc (by omega)]
      show some (LR.next ((lowL (rowH n X) (ordC o b n) i ++ (ordC o b n).drop i).set i (rowH n X i ((ordC o b n).getD i none) (lowL (rowH n X) (ordC o b n) i)), _)) = _
      rw [lowL_set (by omega)])
    (fun _ _ => by
      show K1m_b2 _ _ _ _ _ = _
      unfold K1m_b2
      dsimp only
      rw [dnlt, bsel_false, List.drop_of_length_le (by omega), List.append_nil])).1
  have h1 : lowL (rowH n X) (ordC o b n) 1 ++ (ordC o b n).drop 1 = ordC o b n := by
    have := lowL_set (h := rowH n X) (c := ordC o b n) (i := 0) (by omega)
    rw [← this]
    show (ordC o b n).set 0 (lessG _ [] 0 0 ((ordC o b n).getD 0 none)) = _
    show (ordC o b n).set 0 ((ordC o b n).getD 0 none) = _
    apply List.ext_getElem?
    intro q
    rw [List.getElem?_set]
    by_cases hq : 0 = q
    · subst hq
      rw [if_pos rfl, if_pos (by omega), List.getD_eq_getElem?_getD, List.getElem?_eq_getElem (by omega)]; rfl
    · rw [if_neg hq]
  replace e2 : loopM (K1m_s2 (n : Int) (n : Int) X) (lowL (rowH n X) (ordC o b n) 1 ++ (ordC o b n).drop 1, 1) = some (.inl (lowL (rowH n X) (ordC o b n) n)) := e2
  rw [h1] at e2
  unfold K1m
  rw [e1, obind_eq, osum_inl]
  unfold K1m_k1
  rw [e2, obind_eq, osum_inl]
  unfold K1m_k2
  rw [K1l_eq m (by rw [lowL_len]), obind_eq]
def vecB (b : List F) : Bool := decide (1 ≤ b.length) && (decide (b.length ≤ 256) && b.all fin32)
theorem K1x_eq {b : List F} (g : FOks b) (s : b.length ≤ 1048576) : K1x b = some (vecB b) := by
  unfold K1x K0a vecB
  rw [obind_eq, K08_eq, obind_eq]
  by_cases h1 : 1 ≤ b.length
  · rw [decide_eq_true h1, decide_eq_true (show (1 : Int) ≤ (b.length : Int) by omega), Bool.true_and, Bool.true_and]
    by_cases h2 : b.length ≤ 256
    · rw [decide_eq_true h2, decide_eq_true (show (b.length : Int) ≤ 256 by omega), bsel_true, Bool.true_and, K0j_eq g s, obind_eq]
    · rw [decide_eq_false h2, decide_eq_false (show ¬ (b.length : Int) ≤ 256 by omega), bsel_false, Bool.false_and]
  · rw [decide_eq_false h1, decide_eq_false (show ¬ (1 : Int) ≤ (b.length : Int) by omega), Bool.false_and, Bool.false_and, bsel_false]
def midB (n : Nat) (X : List F) : Bool := (diagL n X).all fun x => !feq .f32 (some 0) x
theorem dorder_comm (d e : Ieee.Datum) : (d.order e == some .eq) = (e.order d == some .eq) := by
  cases d with
  | nan _ _ => cases e <;> rfl
  | infinity s =>
    cases e with
    | nan _ _ => rfl
    | infinity t => cases s <;> cases t <;> rfl
    | number t n j => cases s <;> rfl
  | number s m i =>
    cases e with
    | nan _ _ => rfl
    | infinity t => cases t <;> rfl
    | number t n j =>
      show (some (compare (Ieee.signed s m (i - min i j).toNat) (Ieee.signed t n (j - min i j).toNat)) == some Ordering.eq) = (some (compare (Ieee.signed t n (j - min j i).toNat) (Ieee.signed s m (i - min j i).toNat)) == some Ordering.eq)
      rw [Int.min_comm j i]
      generalize Ieee.signed s m (i - min i j).toNat = a
      generalize Ieee.signed t n (j - min i j).toNat = b
      by_cases h : a = b
      · subst h; rfl
      · have h1 : compare a b ≠ .eq := fun e => h (Int.compare_eq_eq.1 e)
        have h2 : compare b a ≠ .eq := fun e => h (Int.compare_eq_eq.1 e).symm
        revert h1 h2
        cases compare a b <;> cases compare b a <;> simp
theorem feq_comm (k : FloatKind) (x y : F) : feq k x y = feq k y x := by
  cases x with
  | none => cases y <;> rfl
  | some a =>
    cases y with
    | none => rfl
    | some b => exact dorder_comm _ _
theorem diagL_at {n : Nat} {X : List F} {i : Nat} {x : F} (h : (diagL n X)[i]? = some x) : i < n ∧ x = gm none X n i i := by
  unfold diagL at h
  rw [List.getElem?_map] at h
  by_cases hi : i < n
  · rw [List.getElem?_range hi] at h
    exact ⟨hi, (Option.some.inj h).symm⟩
  · rw [List.getElem?_eq_none (by simpa using hi)] at h; cases h
theorem i_Contains_zero {n : Nat} {X : List F} (hn : n ≤ 12) : K0z (diagL n X) (some 0) = some (!midB n X) := by
  unfold K0z K0y
  have ld : (diagL n X).length = n := diagL_len
  obtain ⟨r, h1, h2⟩ := loop_find (l := diagL n X) (p := fun x => feq .f32 (some 0) x) (step := K0y_s1 (diagL n X) (some 0)) (by
    intro v x h0 hv hx
    show K0y_b1 _ _ v = _
    unfold K0y_b1
    rw [at?_of h0 hx, wrap_succ h0 hv (by omega), show decide (v < ((diagL n X).length : Int)) = true from decide_eq_true hv, bsel_true, obind_eq]
    cases feq .f32 (some 0) x <;> rfl) (by
    show K0y_b1 _ _ _ = _
    unfold K0y_b1
    rw [dnlt, bsel_false])
  have e : (diagL n X).any (fun x => feq .f32 (some 0) x) = !midB n X := by
    unfold midB
    generalize diagL n X = l
    induction l with
    | nil => rfl
    | cons a l ih => simp [ih]
  rw [h1, e]
  cases midB n X with
  | true => rfl
  | false =>
    show some (decide (0 ≤ r)) = some true
    rw [decide_eq_true h2]
theorem K2m_loop {n : Nat} {X : List F} (m : Mat n n X) : loopM (K2m_s1 (n : Int) (n : Int) X) 0 = some (if midB n X then .inl () else .inr false) := by
  have hn := m.A1
  have ld : (diagL n X).length = n := diagL_len
  have e := loop_all (l := diagL n X) (p := fun x => !feq .f32 (some 0) x) false (step := K2m_s1 (n : Int) (n : Int) X) (by
    intro v x h0 hv hx
    obtain ⟨i, rfl⟩ : ∃ i : Nat, v = (i : Int) := ⟨v.toNat, by omega⟩
    obtain ⟨hi, rfl⟩ := diagL_at hx
    rw [Int.toNat_natCast] at hi
    show K2m_b1 _ _ _ _ = _
    unfold K2m_b1
    rw [dlt hi, bsel_true, K2l_eq _ m hi hi, obind_eq, Int.toNat_natCast, feq_comm, wsucc (by omega)]
    cases feq .f32 (some 0) (gm none X n i i) <;> rfl) (by
    show K2m_b1 _ _ _ _ = _
    unfold K2m_b1
    rw [ld, dnlt, bsel_false])
  exact e
def facB (a0 a1 : Int) (a2 : List F) (a3 : List Int) : Bool := validM a0 a1 a2 && decide (a0 = a1) && (ordB a3 && (decide ((a3.length : Int) = a0) && midB a0.toNat a2))
theorem K2m_eq (a0 a1 : Int) {a2 : List F} (a3 : List Int) (g : FOks a2) (s : a2.length ≤ 1048576) : K2m a0 a1 a2 a3 = some (facB a0 a1 a2 a3) := by
  unfold K2m facB
  rw [K2k_eq a0 a1 g s, obind_eq]
  cases hv : validM a0 a1 a2 && decide (a0 = a1) with
  | false => rfl
  | true =>
    rw [bsel_true, Bool.true_and, K2e_eq, obind_eq]
    cases ordB a3 with
    | false => rfl
    | true =>
      rw [bsel_true, Bool.true_and]
      cases decide ((a3.length : Int) = a0) with
      | false => rfl
      | true =>
        simp only [Bool.and_eq_true, decide_eq_true_eq] at hv
        obtain ⟨hv, he⟩ := hv
        obtain ⟨n, C, rfl, rfl, n0, C0, m, f⟩ := valid_mat hv
        have : n = C := by omega
        subst this
        show obind (loopM _ _) _ = _
        rw [K2m_loop m, Int.toNat_natCast]
        cases midB n a2 <;> rfl
theorem K1e_eq (a0 a1 : Int) {a2 : List F} (a3 : List Int) (g : FOks a2) (s : a2.length ≤ 1048576) : K1e a0 a1 a2 a3 = some (facB a0 a1 a2 a3) := by
  unfold K1e facB
  rw [K0l_eq a0 a1 g s, obind_eq]
  cases hv : validM a0 a1 a2 && decide (a0 = a1) with
  | false => rfl
  | true =>
    simp only [Bool.and_eq_true, decide_eq_true_eq] at hv
    obtain ⟨hv, he⟩ := hv
    obtain ⟨n, C, rfl, rfl, n0, C0, m, f⟩ := valid_mat hv
    have : n = C := by omega
    subst this
    rw [bsel_true, Bool.true_and, K0x_eq m, obind_eq, i_Contains_zero m.A1, obind_eq, Int.toNat_natCast, K1d_eq]
    unfold K10
    cases midB n a2 with
    | false => cases ordB a3 <;> cases decide ((a3.length : Int) = (n : Int)) <;> rfl
    | true =>
      cases ordB a3 with
      | false => rfl
      | true =>
        show some (decide ((a3.length : Int) = (n : Int))) = _
        rw [Bool.true_and, Bool.and_true]
def fitB (a0 a1 : Int) (a2 : List F) (a3 : List Int) (a4 : List F) : Bool := facB a0 a1 a2 a3 && (vecB a4 && decide ((a4.length : Int) = a0))
theorem K1y_eq (a0 a1 : Int) {a2 : List F} (a3 : List Int) {a4 : List F} (g : FOks a2) (s : a2.length ≤ 1048576) (g4 : FOks a4) (s4 : a4.length ≤ 1048576) : K1y a0 a1 a2 a3 a4 = some (fitB a0 a1 a2 a3 a4) := by
  unfold K1y K0a fitB
  rw [K1e_eq a0 a1 a3 g s, obind_eq, K1x_eq g4 s4, obind_eq]
  cases facB a0 a1 a2 a3 <;> cases vecB a4 <;> rfl
theorem rowH_ok {n : Nat} {X : List F} : ∀ i y L, FOk .f32 y → FOk .f32 (rowH n X i y L) := fun _ _ _ h => lessG_ok h
theorem upH_ok {n : Nat} {X : List F} : ∀ i y L, FOk .f32 y → FOk .f32 (upH n X i y L) := fun _ _ _ _ => fop_fok _ _ _
theorem getD_map_range {α : Type} {f : Nat → α} {n q : Nat} {d : α} (h : q < n) : ((List.range n).map f).getD q d = f q := by
  rw [List.getD_eq_getElem?_getD, List.getElem?_map, List.getElem?_range h]; rfl
theorem K2t_eq {n : Nat} {X : List F} (m : Mat n n X) : K2t (n : Int) (n : Int) X = some ((n : Int), (n : Int), flipM n X) := by
  have hn := m.A1
  have hnn : n * n ≤ 144 := by rw [← m.len]; exact m.small
  have hw : IntKind.i64.wrap ((n : Int) * (n : Int)) = ((n * n : Nat) : Int) := by rw [wrap_i64 (by rw [← Int.natCast_mul]; omega) (by rw [← Int.natCast_mul]; omega)]; simp
  have e := (loop_run (step := K2t_s1 (n : Int) (n : Int) X) (fun (q : Nat) (l : List F) => (l, (q : Int))) (fun q l => l ++ [gm none X n (q % n) (q / n)]) (fun l => l) (fun q l => l.length = q) (lo := 0) (n := n * n) (Nat.zero_le _) (s0 := []) rfl
    (fun q l _ hq hI => by
      refine ⟨?_, by simp [hI]⟩
      show K2t_b1 _ _ _ _ _ = _
      unfold K2t_b1
      have hC0 : 0 < n := by
        rcases Nat.eq_zero_or_pos n with h | h
        · subst h; omega
        · exact h
      have d1 : q / n < n := Nat.div_lt_of_lt_mul hq
      have d2 : q % n < n := Nat.mod_lt _ hC0
      dsimp only
      have ap : apok 4 l.length 1 = true := by simp [apok, hI]; omega
      rw [hw, olet_eq, dlt hq, bsel_true, dne0 hC0, need_true, tmod_n, olet_eq, need_true, tdiv_n, wn (by omega), olet_eq, K2l_eq _ m d2 d1, obind_eq, ap, need_true, wsucc (by omega)]
      rfl)
    (fun l _ => by
      show K2t_b1 _ _ _ _ _ = _
      unfold K2t_b1
      rw [hw, olet_eq, dnlt, bsel_false])).1
  rw [Nat.sub_zero, run_map] at e
  have hf : (List.range (n * n)).map (fun q => gm none X n (q % n) (q / n)) = flipM n X := by
    refine mat_ext (A := n) (C := n) ⟨hn, hn, by simp⟩ (flipM_mat hn) fun i k hi hk => ?_
    rw [flipM_gm hn hi hk]
    show ((List.range (n * n)).map (fun q => gm none X n (q % n) (q / n))).getD (i * n + k) none = _
    have e1 : (i * n + k) / n = i := by rw [Nat.mul_comm, Nat.mul_add_div (by omega), Nat.div_eq_of_lt hk, Nat.add_zero]
    have e2 : (i * n + k) % n = k := by rw [Nat.mul_comm, Nat.mul_add_mod, Nat.mod_eq_of_lt hk]
    rw [getD_map_range (idx_lt hi hk), e1, e2]
  rw [hf] at e
  unfold K2t K03
  replace e : loopM (K2t_s1 (n : Int) (n : Int) X) ([], 0) = some (.inl (flipM n X)) := e
  rw [obind3_eq, e]; rfl
def unitC (n k : Nat) : List F := (List.replicate n (some 0 : F)).set k (some 1065353216)
theorem unitC_len {n k : Nat} : (unitC n k).length = n := by simp [unitC]
theorem unitC_oks {n k : Nat} : FOks (unitC n k) := FOks.set (fun x hx => by rw [(List.mem_replicate.1 hx).2]; exact zero_ok) ⟨_, rfl, by decide, by decide⟩
theorem colP_unit {n k : Nat} (hn : n ≤ 12) (hk : k < n) : colP n n k (tabM n n unitF) = unitC n k := by
  apply List.ext_getElem?
  intro q
  by_cases hq : q < n
  · have h1 : (colP n n k (tabM n n unitF)).getD q none = unitF q k := by rw [colP_at hq, tabM_gm hn hn hq hk]
    have h2 : (unitC n k).getD q none = unitF q k := by
      unfold unitC unitF
      rw [List.getD_eq_getElem?_getD, List.getElem?_set]
      by_cases e : k = q
      · subst e
        rw [if_pos rfl, if_pos (by simpa using hk), decide_eq_true rfl]; rfl
      · rw [if_neg e, List.getElem?_replicate, if_pos hq, decide_eq_false (fun h => e h.symm)]; rfl
    rw [List.getD_eq_getElem?_getD, List.getElem?_eq_getElem (by rw [colP_len]; exact hq)] at h1
    rw [List.getD_eq_getElem?_getD, List.getElem?_eq_getElem (by rw [unitC_len]; exact hq)] at h2
    rw [List.getElem?_eq_getElem (by rw [colP_len]; exact hq), List.getElem?_eq_getElem (by rw [unitC_len]; exact hq)]
    congr 1
    exact h1.trans h2.symm
  · rw [List.getElem?_eq_none (by rw [colP_len]; omega), List.getElem?_eq_none (by rw [unitC_len]; omega)]
def solP (n : Nat) (X : List F) (o : List Int) (k : Nat) : List F := upL (upH n X) n (lowL (rowH n X) (ordC o (unitC n k) n) n)
theorem solP_len {n k : Nat} {X : List F} {o : List Int} : (solP n X o k).length = n := by unfold solP; rw [upL_len, lowL_len]
theorem solP_oks {n k : Nat} {X : List F} {o : List Int} : FOks (solP n X o k) := upL_oks upH_ok (lowL_oks rowH_ok (ordC_oks unitC_oks) n)
def putC (n k : Nat) (c L : List F) : List F := run (fun i L => sm L n i k (c.getD i none)) 0 n L
theorem putC_mat {n k : Nat} {c L : List F} (h : Mat n n L) : Mat n n (putC n k c L) := run_inv (fun _ L => Mat n n L) n 0 L h fun _ _ _ _ h => h.set _ _ _
theorem putC_oks {n k : Nat} {c L : List F} (g : FOks L) (hc : FOks c) : FOks (putC n k c L) := run_inv (fun _ L => FOks L) n 0 L g fun _ _ _ _ h => h.set (hc.getD _)
def invM (n : Nat) (X : List F) (o : List Int) : List F := run (fun k L => putC n k (solP n X o k) L) 0 n (List.replicate (n * n) (some 0))
theorem invM_inv {n : Nat} {X : List F} {o : List Int} (hn : n ≤ 12) : Mat n n (invM n X o) ∧ FOks (invM n X o) := by
  have := run_inv (f := fun k L => putC n k (solP n X o k) L) (fun _ L => Mat n n L ∧ FOks L) n 0 (List.replicate (n * n) (some 0)) ⟨zmat hn hn, fun x hx => by rw [(List.mem_replicate.1 hx).2]; exact zero_ok⟩ fun k L _ _ h => ⟨putC_mat h.1, putC_oks h.2 solP_oks⟩
  exact this
theorem i_setColumn_eq {n k : Nat} {c L : List F} (h : Mat n n L) (hk : k < n) (hc : c.length = n) : K1n (n : Int) (n : Int) (k : Int) c L = some (putC n k c L) := by
  have hn := h.A1
  have e := (loop_run (step := K1n_s1 (n : Int) (n : Int) (k : Int) c L) (fun (i : Nat) (L : List F) => (L, (i : Int))) (fun i L => sm L n i k (c.getD i none)) (fun L => L) (fun _ L => Mat n n L) (lo := 0) (n := n) (Nat.zero_le _) (s0 := L) h
    (fun i L2 _ hi h3 => by
      refine ⟨?_, h3.set _ _ _⟩
      show K1n_b1 _ _ _ _ _ _ _ = _
      unfold K1n_b1
      have l1 : decide ((sm L2 n i k (c.getD i none)).length = L.length) = true := by simp [h3.len, h.len]
      dsimp only
      rw [dlt hi, bsel_true, at?_n none (by omega), obind_eq, K0r_eq _ h3 hi hk, obind_eq, l1, need_true, wsucc (by omega)]
      rfl)
    (fun L2 _ => by
      show K1n_b1 _ _ _ _ _ _ _ = _
      unfold K1n_b1
      rw [dnlt, bsel_false])).1
  unfold K1n
  replace e : loopM (K1n_s1 (n : Int) (n : Int) (k : Int) c L) (L, 0) = some (.inl (putC n k c L)) := e
  rw [e]; rfl
def inP (n : Nat) (X : List F) (o : List Int) : Int × Int × Bool × List F := bif (invM n X o).all fin32 then ((n : Int), (n : Int), true, invM n X o) else (0, 0, false, [])
theorem K1p_eq {n : Nat} {X : List F} {o : List Int} (m : Mat n n X) (n0 : 0 < n) (g : FOks X) (ho : o.length = n) (hr : ∀ i, i < n → 0 ≤ o.getD i 0 ∧ o.getD i 0 < (n : Int)) (hf : facB (n : Int) (n : Int) X o = true) : K1p (n : Int) (n : Int) X o = some (inP n X o) := by
  have hn := m.A1
  obtain ⟨mI, gI⟩ := invM_inv (X := X) (o := o) hn
  have e := (loop_run (step := K1p_s1 (n : Int) (n : Int) X o (n : Int) (n : Int) (List.replicate (n * n) (some 0))) (fun (k : Nat) (L : List F) => (L, (k : Int))) (fun k L => putC n k (solP n X o k) L) (fun L => L) (fun _ L => Mat n n L) (lo := 0) (n := n) (Nat.zero_le _) (s0 := List.replicate (n * n) (some 0)) (zmat hn hn)
    (fun k L _ hk h3 => by
      refine ⟨?_, putC_mat h3⟩
      show K1p_b1 _ _ _ _ _ _ _ _ _ = _
      unfold K1p_b1
      have l1 : decide ((putC n k (solP n X o k) L).length = (List.replicate (n * n) (some 0 : F)).length) = true := by rw [(putC_mat h3).len]; simp
      dsimp only
      rw [dlt hk, bsel_true, K1i_eq hn, obind3_eq, K1j_eq (tabM_mat hn hn) hk, obind_eq, colP_unit hn hk, K1m_eq m n0 unitC_len ho hr, obind_eq, show upL (upH n X) n (lowL (rowH n X) (ordC o (unitC n k) n) n) = solP n X o k from rfl, i_setColumn_eq h3 hk solP_len, obind_eq, l1, need_true, wsucc (by omega)]
      rfl)
    (fun L _ => by
      show K1p_b1 _ _ _ _ _ _ _ _ _ = _
      unfold K1p_b1
      rw [dnlt, bsel_false])).1
  replace e : loopM (K1p_s1 (n : Int) (n : Int) X o (n : Int) (n : Int) (List.replicate (n * n) (some 0))) (List.replicate (n * n) (some 0), 0) = some (.inl (invM n X o)) := e
  unfold K1p
  rw [K1e_eq _ _ _ g m.le, hf, obind_eq, bsel_true, K1f_eq hn hn, obind3_eq, e, obind_eq, osum_inl]
  unfold K1p_k1 K1o inP
  have l1 : decide ((invM n X o).length = (List.replicate (n * n) (some 0 : F)).length) = true := by rw [mI.len]; simp
  rw [K0k_eq _ _ gI mI.le, mat_valid mI n0 n0, obind_eq]
  cases (invM n X o).all fin32 with
  | true => rw [bsel_true, obind_eq, osum_inl, obind4_eq, l1, need_true]; rfl
  | false => rw [bsel_false, obind_eq, osum_inr, obind5_eq, l1, need_true]; rfl
theorem wi64 {n : Int} (h0 : -9000000000000000000 ≤ n) (h1 : n ≤ 9000000000000000000) : IntKind.i64.wrap n = n := wrap_i64 (by omega) (by omega)
theorem u64_wrap {n : Int} (h0 : 0 ≤ n) (h1 : n < 18446744073709551616) : IntKind.u64.wrap n = n := by
  simp only [IntKind.wrap, IntKind.bits, IntKind.signed]
  simp
  omega
def Byt (l : List Int) : Prop := ∀ z ∈ l, 0 ≤ z ∧ z < 256
theorem byt_of {l : List Int} (h : ∀ z ∈ l, (Lit.int .u8 z).wf = true) : Byt l := by
  intro z hz
  have := h z hz
  have e0 : IntKind.u8.min = 0 := by decide
  have e1 : IntKind.u8.max = 255 := by decide
  simp only [Lit.wf, e0, e1, Bool.and_eq_true, decide_eq_true_eq] at this
  constructor <;> omega
theorem iand255 (x : Int) : ∃ d : Nat, d < 256 ∧ iand .u64 x 255 = (d : Int) := by
  have hle : (BitVec.ofInt 64 x &&& BitVec.ofInt 64 255).toNat ≤ 255 := by
    rw [BitVec.toNat_and, show (BitVec.ofInt 64 255).toNat = 255 from by decide]
    exact Nat.and_le_right
  refine ⟨_, Nat.lt_of_le_of_lt hle (by decide), ?_⟩
  show IntKind.u64.wrap (((BitVec.ofInt 64 x &&& BitVec.ofInt 64 255).toNat : Nat) : Int) = _
  exact u64_wrap (by omega) (by omega)
theorem src_k1 {a : List Int} {t v : Nat} {s : Int} (ht : t ≤ 1000000) (hv : v < 256) : ∃ (w : Nat) (s' : Int), w < 256 ∧ K04_k1 a (t : Int) s (v : Int) = some ((w : Int), ((t + 1 : Nat) : Int), s') := by
  unfold K04_k1
  simp only [olet_eq]
  rw [wsucc (by omega)]
  generalize IntKind.u64.wrap (IntKind.u64.wrap (IntKind.u64.wrap (s * 6364136223846793005) + IntKind.u64.wrap (v : Int)) + 1442695040888963407) = X
  by_cases h : t + 1 ≤ a.length
  · rw [decide_eq_true (by omega), bsel_true]; exact ⟨v, _, hv, rfl⟩
  · obtain ⟨d, hd, e⟩ := iand255 (ishr .u64 X 40)
    rw [decide_eq_false (by omega), bsel_false, show decide ((0 : Int) ≤ 40) = true from rfl, need_true, e, wi64 (by omega) (by omega)]
    exact ⟨d, _, hd, rfl⟩
theorem src_next {a : List Int} (ha : Byt a) {t : Nat} (ht : t ≤ 1000000) (s : Int) : ∃ (v : Nat) (s' : Int), v < 256 ∧ K04 a (t : Int) s = some ((v : Int), ((t + 1 : Nat) : Int), s') := by
  by_cases h : t < a.length
  · obtain ⟨x, hx⟩ : ∃ x, a[t]? = some x := ⟨_, List.getElem?_eq_getElem h⟩
    obtain ⟨x0, x1⟩ := ha x (List.mem_of_getElem? hx)
    have e : K04 a (t : Int) s = K04_k1 a (t : Int) s ((x.toNat : Nat) : Int) := by
      unfold K04
      rw [decide_eq_true (by omega), bsel_true, at?_of (by omega) (by rw [show (t : Int).toNat = t from by omega]; exact hx), obind_eq, olet_eq, wi64 (by omega) (by omega)]
      congr 1; omega
    rw [e]; exact src_k1 ht (by omega)
  · have e : K04 a (t : Int) s = K04_k1 a (t : Int) s ((0 : Nat) : Int) := by
      unfold K04
      rw [decide_eq_false (by omega), bsel_false]
      congr 1
    rw [e]; exact src_k1 ht (by decide)
theorem src_pick {a : List Int} (ha : Byt a) {n t : Nat} (h1 : 1 ≤ n) (h2 : n ≤ 200) (ht : t ≤ 1000000) (s : Int) : ∃ (v t' : Nat) (s' : Int), v < n ∧ t' ≤ t + 1 ∧ K05 (n : Int) a (t : Int) s = some ((v : Int), (t' : Int), s') := by
  unfold K05
  by_cases h : n ≤ 1
  · rw [decide_eq_true (by omega), bsel_true]; exact ⟨0, t, s, by omega, by omega, rfl⟩
  · obtain ⟨v, s', hv, e⟩ := src_next ha ht s
    rw [decide_eq_false (by omega), bsel_false, e, obind3_eq, decide_eq_false (by omega), bsel_false]
    unfold K05_k1
    rw [decide_eq_false (by omega), Bool.not_false, need_true]
    simp only [olet_eq]
    refine ⟨v % n, t + 1, s', Nat.mod_lt _ (by omega), Nat.le_refl _, ?_⟩
    rw [Int.tmod_eq_emod_of_nonneg (by omega), Int.natCast_emod]
def Qd (x : F) : Prop := ∃ q : Int, q.natAbs ≤ 16 ∧ Dy .f32 2 q x
open Classical in
noncomputable def qv (x : F) : Int := if h : Qd x then h.choose else 0
theorem qv_le (x : F) : (qv x).natAbs ≤ 16 := by
  unfold qv
  split
  · rename_i h; exact h.choose_spec.1
  · decide
theorem qd_dy {x : F} (h : Qd x) : Dy .f32 2 (qv x) x := by
  unfold qv
  rw [dif_pos h]; exact h.choose_spec.2
theorem four_dy : Dy .f32 0 4 (some 1082130432) := by
  have e : fint .f32 4 = some 1082130432 := by decide +kernel
  rw [← e]; exact Dy.int (by decide)
theorem quarter {n : Int} (h : n.natAbs ≤ 16) : Qd (fop .quo .f32 (fint .f32 n) (some 1082130432)) := by
  have hd : (2 : Nat) ^ dgn .f32 = 16777216 := by decide
  have h1 : Dy .f32 0 n (fint .f32 n) := Dy.int (by omega)
  have h2 := h1.scale (t := 2) (by decide)
  exact ⟨n, h, Dy.quo (s := 2) (t := 0) h2 four_dy (by decide) (by omega) (by omega)⟩
theorem mem_gm {A C : Nat} {L : List F} (h : Mat A C L) {x : F} (hx : x ∈ L) : ∃ i k, i < A ∧ k < C ∧ x = gm none L C i k := by
  obtain ⟨q, hq, rfl⟩ := List.mem_iff_getElem.1 hx
  have hq' : q < A * C := by rw [← h.len]; exact hq
  have hC : 0 < C := by
    rcases Nat.eq_zero_or_pos C with h0 | h0
    · subst h0; simp at hq'
    · exact h0
  have h3 : q / C * C + q % C = q := by rw [Nat.mul_comm]; exact Nat.div_add_mod q C
  refine ⟨q / C, q % C, (Nat.div_lt_iff_lt_mul hC).2 hq', Nat.mod_lt _ hC, ?_⟩
  unfold gm
  rw [h3]
  simp [List.getD, hq]
theorem tab_fin {A C : Nat} {f : Nat → Nat → F} (hA : A ≤ 12) (hC : C ≤ 12) (hf : ∀ i k, i < A → k < C → fin32 (f i k) = true) : (tabM A C f).all fin32 = true := by
  refine List.all_eq_true.2 fun x hx => ?_
  obtain ⟨i, k, hi, hk, rfl⟩ := mem_gm (tabM_mat hA hC) hx
  rw [tabM_gm hA hC hi hk]; exact hf i k hi hk
theorem sub_getD {l : List F} {v to j : Nat} (hj : v + j < to) : ((l.take to).drop v).getD j none = l.getD (v + j) none := by
  simp [List.getD, List.getElem?_drop, List.getElem?_take, hj]
theorem gm_flat {A C v : Nat} {L : List F} (hC : 0 < C) (h : v < A * C) : L.getD v none = gm none L C (v / C) (v % C) ∧ v / C < A ∧ v % C < C := by
  refine ⟨?_, (Nat.div_lt_iff_lt_mul hC).2 h, Nat.mod_lt _ hC⟩
  unfold gm
  rw [show v / C * C + v % C = v from by rw [Nat.mul_comm]; exact Nat.div_add_mod v C]
theorem loop_all {n : Nat} {step : Int → Option (LR Int Unit Bool)} (hn : n ≤ 1000000) (hs : ∀ i : Nat, i < n → step (i : Int) = some (.next ((i + 1 : Nat) : Int))) (he : step (n : Int) = some (.out ())) : loopM step 0 = some (.inl ()) :=
  (loop_run (step := step) (fun (i : Nat) (_ : Unit) => (i : Int)) (fun _ u => u) (fun _ => ()) (fun _ _ => True) (lo := 0) (n := n) (Nat.zero_le _) (s0 := ()) trivial (fun i _ _ hi _ => ⟨hs i hi, trivial⟩) (fun _ _ => he)).1
def cE : Rat := 3 / 100000
theorem runE_all {σ ρ : Type} {f : Nat → σ → σ ⊕ ρ} (Inv : Nat → σ → Prop) : ∀ (m i : Nat) (s : σ), Inv i s → (∀ j s, i ≤ j → j < i + m → Inv j s → ∃ s', f j s = .inl s' ∧ Inv (j + 1) s') → ∃ s', runE f i m s = .inl s' ∧ Inv (i + m) s'
  | 0, i, s, h, _ => ⟨s, rfl, h⟩
  | m + 1, i, s, h, hs => by
    obtain ⟨s1, e1, h1⟩ := hs i s (Nat.le_refl _) (by omega) h
    obtain ⟨s2, e2, h2⟩ := runE_all Inv m (i + 1) s1 h1 fun j s hj1 hj2 hI => hs j s (by omega) (by omega) hI
    refine ⟨s2, ?_, by rw [show i + (m + 1) = i + 1 + m from by omega]; exact h2⟩
    simp only [runE]
    rw [e1]; exact e2
noncomputable def vm (n : Nat) (R : List F) (i k : Nat) : Rat := vl (gm none R n i k)
theorem dotN_near {f g : Nat → F} {P S e : Rat} : ∀ {n : Nat}, n ≤ 16 → (∀ j, j < n → Fv (f j) ∧ Fv (g j) ∧ Ab (vl (f j) * vl (g j)) P) → (∀ j, j ≤ n → Ab (rs (fun t => vl (f t) * vl (g t)) j) S) → P ≤ 100000 → S ≤ 100000 → e32 P + e32 (S + 16 * e + e32 P) ≤ e → 0 ≤ e → e ≤ 1 →
    Fv (dotN f g n) ∧ Ab (vl (dotN f g n) - rs (fun t => vl (f t) * vl (g t)) n) ((n : Rat) * e)
  | 0, _, _, _, _, _, _, e0, _ => by
    refine ⟨fv_zero.1, ?_⟩
    show Ab (vl (some 0) - 0) ((0 : Nat) * e)
    rw [fv_zero.2]
    exact ⟨by simp; grind, by simp; grind⟩
  | n + 1, hn, h, hS, hP, hS1, he, e0, e1 => by
    obtain ⟨i1, i2⟩ := dotN_near (n := n) (by omega) (fun j hj => h j (by omega)) (fun j hj => hS j (by omega)) hP hS1 he e0 e1
    obtain ⟨f1, f2, f3⟩ := h n (by omega)
    have e2 : dotN f g (n + 1) = fop .add .f32 (dotN f g n) (fop .mul .f32 (f n) (g n)) := by
      unfold dotN
      rw [run_last, Nat.zero_add]; rfl
    rw [e2]
    have hs := hS (n + 1) (Nat.le_refl _)
    have e3 : rs (fun t => vl (f t) * vl (g t)) (n + 1) = rs (fun t => vl (f t) * vl (g t)) n + vl (f n) * vl (g n) := rfl
    rw [e3] at hs ⊢
    generalize rs (fun t => vl (f t) * vl (g t)) n = T at *
    generalize dotN f g n = z at *
    have hn16 : (n : Rat) ≤ 16 := by exact_mod_cast (show n ≤ 16 by omega)
    have hne : (n : Rat) * e ≤ 16 * e := Rat.mul_le_mul_of_nonneg_right hn16 e0
    have hM : Ab (vl z + vl (f n) * vl (g n)) (S + 16 * e) := by
      have := (i2.mono hne).add hs
      rw [show vl z - T + (T + vl (f n) * vl (g n)) = vl z + vl (f n) * vl (g n) from by grind] at this
      exact this.mono (by grind)
    obtain ⟨r1, r2⟩ := fv_addmul i1 f1 f2 f3 hM (by grind) (by grind) he
    refine ⟨r1, ?_⟩
    have := r2.add i2
    rw [show vl (fop .add .f32 z (fop .mul .f32 (f n) (g n))) - (vl z + vl (f n) * vl (g n)) + (vl z - T) = vl (fop .add .f32 z (fop .mul .f32 (f n) (g n))) - (T + vl (f n) * vl (g n)) from by grind] at this
    exact this.mono (by push_cast; grind)
theorem rs_ab16 {f : Nat → Rat} {e : Rat} {n j m : Nat} (hj : j ≤ n) (hn : n ≤ m) (he : 0 ≤ e) (h : ∀ t, t < n → Ab (f t) e) : Ab (rs f j) ((m : Rat) * e) := by
  have h1 := rs_ab (f := f) (n := j) fun t ht => h t (by omega)
  refine h1.mono (Rat.mul_le_mul_of_nonneg_right ?_ he)
  exact_mod_cast (show j ≤ m by omega)
theorem c001 : ∃ q, Rv .f64 q (some 4562254508917369340) ∧ 999 / 1000000 ≤ q := by
  have h : Dy .f64 1074 (fval .f64 4562254508917369340) (some 4562254508917369340) := ⟨_, rfl, by decide +kernel, by decide +kernel, by decide, by rw [show lpn .f64 - 1074 = 0 from by decide]; simp⟩
  have := Rv.of_dy h
  refine ⟨_, this, ?_⟩
  decide +kernel
theorem e64_le {M : Rat} (h : M ≤ 1000000) (h0 : 0 ≤ M) : er .f64 M ≤ 1 / 1000000000 := by
  have ep64 : ep .f64 = 1 / 4503599627370496 := by decide +kernel
  have et64 : et .f64 ≤ 1 / 1000000000000000 := by decide +kernel
  unfold er
  rw [ep64]; grind
theorem gap_near {x y : F} {p q e : Rat} (hx : Rv .f64 p x) (hy : Rv .f64 q y) (h : Ab (p - q) e) (he : e ≤ 1000000) : ∃ z g, K29 x y = some z ∧ Rv .f64 g z ∧ Ab g (e + 1 / 1000000000) := by
  have e0 := h.nonneg
  unfold K29
  rw [(hx.ord hy).1]
  by_cases hlt : p < q
  · rw [decide_eq_true hlt, bsel_true, olet_eq]
    have h2 : Ab (q - p) e := by have := h.neg; rw [show -(p - q) = q - p from by grind] at this; exact this
    obtain ⟨g, g1, g2⟩ := hy.sub hx h2 (big60 (by grind))
    refine ⟨_, g, rfl, g1, ?_⟩
    have := (g2.mono (e64_le he e0)).add h2
    rw [show g - (q - p) + (q - p) = g from by grind] at this
    exact this.mono (by grind)
  · rw [decide_eq_false hlt, bsel_false, olet_eq]
    obtain ⟨g, g1, g2⟩ := hx.sub hy h (big60 (by grind))
    refine ⟨_, g, rfl, g1, ?_⟩
    have := (g2.mono (e64_le he e0)).add h
    rw [show g - (p - q) + (p - q) = g from by grind] at this
    exact this.mono (by grind)
theorem gap_le {x y : F} {p q : Rat} (hx : Rv .f64 p x) (hy : Rv .f64 q y) (h : Ab (p - q) (998 / 1000000)) : ∃ z, K29 x y = some z ∧ fle .f64 z (some 4562254508917369340) = true ∧ flt .f64 (some 4562254508917369340) z = false := by
  obtain ⟨z, g, e, g1, g2⟩ := gap_near hx hy h (by decide +kernel)
  obtain ⟨c, c1, c2⟩ := c001
  refine ⟨z, e, ?_, ?_⟩
  · rw [(g1.ord c1).2.1, decide_eq_true]; have := g2.2; grind
  · rw [(c1.ord g1).1, decide_eq_false]; have := g2.2; grind
theorem far_no {a b : List F} (hl : a.length = b.length) (hs : a.length ≤ 1000000) (h : ∀ i, i < a.length → Fv (a.getD i none) ∧ Fv (b.getD i none) ∧ Ab (vl (a.getD i none) - vl (b.getD i none)) (998 / 1000000)) : K2a a b (some 4562254508917369340) = some false := by
  unfold K2a
  rw [hl, decide_eq_true rfl, Bool.not_true, bsel_false]
  have e := (loop_run (step := K2a_s1 a b (some 4562254508917369340)) (fun (i : Nat) (_ : Unit) => (i : Int)) (fun _ u => u) (fun _ => ()) (fun _ _ => True) (lo := 0) (n := a.length) (Nat.zero_le _) (s0 := ()) trivial
    (fun i _ _ hi _ => by
      refine ⟨?_, trivial⟩
      show K2a_b1 a b _ (i : Int) = _
      obtain ⟨f1, f2, f3⟩ := h i hi
      obtain ⟨z, z1, z2, _⟩ := gap_le f1.rv.widen f2.rv.widen f3
      unfold K2a_b1
      rw [dlt hi, bsel_true, at?_n none hi, obind_eq, olet_eq, at?_n none (by omega), obind_eq, olet_eq, z1, obind_eq, z2, bsel_true, olet_eq, wsucc (by omega)])
    (fun _ _ => by
      show K2a_b1 a b _ (a.length : Int) = _
      unfold K2a_b1
      rw [dnlt, bsel_false])).1
  have e : loopM (K2a_s1 a b (some 4562254508917369340)) 0 = some (.inl ()) := e
  rw [e]; rfl
theorem farM_no {A C : Nat} {L M : List F} (m : Mat A C L) (n : Mat A C M) (hC : 0 < C) (h : ∀ i k, i < A → k < C → Fv (gm none L C i k) ∧ Fv (gm none M C i k) ∧ Ab (vl (gm none L C i k) - vl (gm none M C i k)) (998 / 1000000)) : K37 (A : Int) (C : Int) L (A : Int) (C : Int) M (some 4562254508917369340) = some false := by
  unfold K37
  rw [decide_eq_true rfl, Bool.not_true, bsel_false, decide_eq_true rfl, Bool.not_true, bsel_false, far_no (by rw [m.len, n.len]) (by have := m.small; omega) fun i hi => ?_, obind_eq]
  rw [m.len] at hi
  obtain ⟨e1, i1, i2⟩ := gm_flat (L := L) hC hi
  obtain ⟨e2, _, _⟩ := gm_flat (L := M) hC hi
  rw [e1, e2]; exact h _ _ i1 i2
theorem lowL_get2 {h : Nat → F → List F → F} {c : List F} : ∀ {n i : Nat}, i < n → (lowL h c n).getD i none = h i (c.getD i none) (lowL h c i)
  | n + 1, i, hi => by
    show (lowL h c n ++ [h n (c.getD n none) (lowL h c n)]).getD i none = _
    by_cases e : i < n
    · rw [getD_appG (by rw [lowL_len]; exact e), lowL_get2 e]
    · have : i = n := by omega
      subst this
      rw [List.getD_eq_getElem?_getD, List.getElem?_append_right (by rw [lowL_len]; exact Nat.le_refl _), lowL_len, Nat.sub_self]; rfl
theorem lowL_pre {h : Nat → F → List F → F} {c : List F} {n i j : Nat} (hj : j < i) (hi : i ≤ n) : (lowL h c i).getD j none = (lowL h c n).getD j none := by
  rw [lowL_get2 hj, lowL_get2 (by omega)]
theorem rs_ble {B : Nat → Rat} {n : Nat} (h : ∀ i, i < n → 0 ≤ B i ∧ B i ≤ 100) : ∀ {i j : Nat}, i ≤ j → j ≤ n → rs B i ≤ rs B j := by
  intro i j hij
  induction j with
  | zero => intro _; have : i = 0 := by omega
            subst this; exact Rat.le_refl
  | succ j ih =>
    intro hj
    rcases Nat.lt_or_eq_of_le hij with hlt | heq
    · have := ih (by omega) (by omega)
      have := (h j (by omega)).1
      show rs B i ≤ rs B j + B j
      grind
    · subst heq; exact Rat.le_refl
theorem rs_mono {f g : Nat → Rat} : ∀ {n : Nat}, (∀ j, j < n → Ab (f j) (g j)) → Ab (rs f n) (rs g n)
  | 0, _ => ⟨by unfold rs; grind, by unfold rs; grind⟩
  | n + 1, h => by
    unfold rs
    exact (rs_mono (n := n) fun j hj => h j (by omega)).add (h n (by omega))
theorem e32_mono {a b : Rat} (h : a ≤ b) : e32 a ≤ e32 b := by unfold e32; grind
theorem rs_head (g : Nat → Rat) : ∀ m, rs g (m + 1) = g 0 + rs (fun t => g (t + 1)) m
  | 0 => by show rs g 0 + g 0 = g 0 + 0; unfold rs; grind
  | m + 1 => by
    show rs g (m + 1) + g (m + 1) = g 0 + (rs (fun t => g (t + 1)) m + g (m + 1))
    rw [rs_head g m]; grind
theorem rs_rev : ∀ (m : Nat) (g : Nat → Rat), rs (fun t => g (m - 1 - t)) m = rs g m
  | 0, _ => rfl
  | m + 1, g => by
    have e1 : rs (fun t => g (m + 1 - 1 - t)) (m + 1) = rs (fun t => g (m + 1 - 1 - t)) m + g (m + 1 - 1 - m) := rfl
    rw [e1, rs_head g m, show m + 1 - 1 - m = 0 from by omega, rs_congr (g := fun t => (fun s => g (s + 1)) (m - 1 - t)) fun t ht => by rw [show m + 1 - 1 - t = m - 1 - t + 1 from by omega], rs_rev m fun s => g (s + 1)]
    grind
theorem rs_part {g : Nat → Rat} {m : Nat} (h : ∀ t, t < m → 0 ≤ g t) : ∀ {j k : Nat}, j ≤ k → k ≤ m → rs g j ≤ rs g k := by
  intro j k hjk
  induction k with
  | zero => intro _; have : j = 0 := by omega
            subst this; exact Rat.le_refl
  | succ k ih =>
    intro hk
    rcases Nat.lt_or_eq_of_le hjk with hlt | heq
    · have := ih (by omega) (by omega)
      have := h k (by omega)
      show rs g j ≤ rs g k + g k
      grind
    · subst heq; exact Rat.le_refl
theorem upL_get {h : Nat → F → List F → F} {n : Nat} {c : List F} (hc : c.length = n) : ∀ i, i < n → ∃ L', (upL h n c).getD i none = h i (c.getD i none) L' ∧ L'.length = n ∧ ∀ k, i < k → k < n → L'.getD k none = (upL h n c).getD k none := by
  have inv := run_inv (f := fun j L => L.set (n - 1 - j) (h (n - 1 - j) (L.getD (n - 1 - j) none) L)) (fun j (L : List F) => j ≤ n → L.length = n ∧ (∀ i, i < n - j → L.getD i none = c.getD i none) ∧ ∀ i, n - j ≤ i → i < n → ∃ L', L.getD i none = h i (c.getD i none) L' ∧ L'.length = n ∧ ∀ k, i < k → k < n → L'.getD k none = L.getD k none) n 0 c (fun _ => ⟨hc, fun _ _ => rfl, fun i h1 h2 => by omega⟩) (fun j L _ hj hI => by
    intro hj1
    obtain ⟨l1, l2, l3⟩ := hI (by omega)
    have hp : n - 1 - j < L.length := by omega
    have gs : ∀ (x : F) i, i < n → (L.set (n - 1 - j) x).getD i none = if n - 1 - j = i then x else L.getD i none := fun x i hi => by
      rw [List.getD_eq_getElem?_getD, List.getD_eq_getElem?_getD]
      by_cases e : n - 1 - j = i
      · subst e; rw [if_pos rfl, List.getElem?_set_self hp]; rfl
      · rw [if_neg e, List.getElem?_set_ne e]
    refine ⟨by simp [l1], fun i hi => ?_, fun i h1 h2 => ?_⟩
    · rw [gs _ i (by omega), if_neg (by omega)]; exact l2 i (by omega)
    · by_cases e : n - 1 - j = i
      · subst e
        refine ⟨L, ?_, l1, fun k hk hkn => by rw [gs _ k hkn, if_neg (by omega)]⟩
        rw [gs _ _ h2, if_pos rfl, l2 _ (by omega)]
      · obtain ⟨L', p1, p2, p3⟩ := l3 i (by omega) h2
        exact ⟨L', by rw [gs _ i h2, if_neg e]; exact p1, p2, fun k hk hkn => by rw [gs _ k hkn, if_neg (by omega)]; exact p3 k hk hkn⟩)
  intro i hi
  have := inv (by omega)
  exact this.2.2 i (by omega) hi
theorem rs_lo {f : Nat → Rat} {n : Nat} : ∀ {i : Nat}, i ≤ n → (∀ t, i ≤ t → t < n → f t = 0) → rs f n = rs f i := by
  intro i hi h
  obtain ⟨m, rfl⟩ : ∃ m, n = i + m := ⟨n - i, by omega⟩
  rw [rs_split, rs_congr (g := fun _ => 0) fun j hj => h (i + j) (by omega) (by omega), rs_zero]; grind
theorem rs_hi {f : Nat → Rat} {n : Nat} {i : Nat} (hi : i ≤ n) (h : ∀ t, t < i → f t = 0) : rs f n = rs (fun t => f (i + t)) (n - i) := by
  obtain ⟨m, rfl⟩ : ∃ m, n = i + m := ⟨n - i, by omega⟩
  rw [rs_split, rs_congr (g := fun _ => 0) fun j hj => h j hj, rs_zero, show i + m - i = m from by omega]; grind
theorem chain_res {n i : Nat} {p q : Nat → Nat → Rat} {x y b e2 : Nat → Rat} {E : Nat → Rat} {e1 M ρ EX : Rat}
    (hE : ∀ k, k < n → Ab (rs (fun t => p i t * q t k) n - E k) EX) (hx : ∀ k, k < n → Ab (x k) M)
    (hF : Ab (rs (fun t => p i t * y t) n - b i) e1) (hB : ∀ t, t < n → Ab (rs (fun k => q t k * x k) n - y t) (e2 t)) (hR : Ab (rs (fun t => p i t * (rs (fun k => q t k * x k) n - y t)) n) ρ) :
    Ab (rs (fun k => E k * x k) n - b i) ((n : Rat) * (EX * M) + ρ + e1) := by
  have h1 : rs (fun k => rs (fun t => p i t * q t k) n * x k) n = rs (fun t => p i t * rs (fun k => q t k * x k) n) n := by
    have : ∀ k, rs (fun t => p i t * q t k) n * x k = rs (fun t => p i t * (q t k * x k)) n := fun k => by
      rw [Rat.mul_comm, ← rs_mul]; exact rs_congr fun t _ => by grind
    rw [rs_congr fun k _ => this k, rs_comm]
    exact rs_congr fun t _ => by rw [rs_mul]
  have h2 : Ab (rs (fun k => (rs (fun t => p i t * q t k) n - E k) * x k) n) ((n : Rat) * (EX * M)) := rs_ab fun k hk => (hE k hk).mul (hx k hk)
  have h3 : rs (fun k => (rs (fun t => p i t * q t k) n - E k) * x k) n = rs (fun k => rs (fun t => p i t * q t k) n * x k) n - rs (fun k => E k * x k) n := by
    rw [← rs_sub]; exact rs_congr fun k _ => by grind
  have h4 : rs (fun t => p i t * (rs (fun k => q t k * x k) n - y t)) n = rs (fun t => p i t * rs (fun k => q t k * x k) n) n - rs (fun t => p i t * y t) n := by
    rw [← rs_sub]; exact rs_congr fun k _ => by grind
  rw [h3, h1] at h2
  rw [h4] at hR
  have := (hR.sub h2).add hF
  generalize rs (fun t => p i t * rs (fun k => q t k * x k) n) n = U at *
  generalize rs (fun t => p i t * y t) n = V at *
  generalize rs (fun k => E k * x k) n = W at *
  rw [show U - V - (U - W) + (V - b i) = W - b i from by grind] at this
  exact this.mono (by grind)
theorem max_ab {x : Nat → Rat} : ∀ {n : Nat}, 0 < n → ∃ i X, i < n ∧ (x i = X ∨ x i = -X) ∧ 0 ≤ X ∧ ∀ k, k < n → Ab (x k) X
  | 1, _ => by
    by_cases h : 0 ≤ x 0
    · refine ⟨0, x 0, by omega, .inl rfl, h, fun k hk => ?_⟩
      have : k = 0 := by omega
      subst this
      exact ⟨by grind, Rat.le_refl⟩
    · refine ⟨0, -x 0, by omega, .inr (by grind), by grind, fun k hk => ?_⟩
      have : k = 0 := by omega
      subst this
      exact ⟨by grind, by grind⟩
  | n + 2, _ => by
    obtain ⟨i, X, h1, h2, h3, h4⟩ := max_ab (x := x) (n := n + 1) (by omega)
    by_cases h : Ab (x (n + 1)) X
    · refine ⟨i, X, by omega, h2, h3, fun k hk => ?_⟩
      by_cases e : k = n + 1
      · subst e; exact h
      · exact h4 k (by omega)
    · by_cases h0 : 0 ≤ x (n + 1)
      · have hX : X < x (n + 1) := by
          by_cases h5 : X < x (n + 1)
          · exact h5
          · exact absurd ⟨by grind, Rat.not_lt.1 h5⟩ h
        refine ⟨n + 1, x (n + 1), by omega, .inl rfl, h0, fun k hk => ?_⟩
        by_cases e : k = n + 1
        · subst e; exact ⟨by grind, Rat.le_refl⟩
        · exact (h4 k (by omega)).mono (Rat.le_of_lt hX)
      · have hX : X < -x (n + 1) := by
          by_cases h5 : X < -x (n + 1)
          · exact h5
          · exact absurd ⟨by have := Rat.not_lt.1 h5; grind, by grind⟩ h
        refine ⟨n + 1, -x (n + 1), by omega, .inr (by grind), by grind, fun k hk => ?_⟩
        by_cases e : k = n + 1
        · subst e; exact ⟨by grind, by grind⟩
        · exact (h4 k (by omega)).mono (Rat.le_of_lt hX)
theorem rs_pick (f : Nat → Rat) (i : Nat) : ∀ n, rs f n = (if i < n then f i else 0) + rs (fun k => if k = i then 0 else f k) n
  | 0 => by unfold rs; rw [if_neg (by omega)]; grind
  | n + 1 => by
    show rs f n + f n = (if i < n + 1 then f i else 0) + (rs (fun k => if k = i then 0 else f k) n + (if n = i then 0 else f n))
    rw [rs_pick f i n]
    by_cases e : n = i
    · subst e; rw [if_neg (by omega), if_pos (by omega), if_pos rfl]; grind
    · by_cases h : i < n
      · rw [if_pos h, if_pos (by omega), if_neg e]; grind
      · rw [if_neg h, if_neg (by omega), if_neg e]; grind
theorem rs_hole {f : Nat → Rat} {i : Nat} {X : Rat} (h : ∀ k, k ≠ i → Ab (f k) X) (hX : 0 ≤ X) : ∀ n : Nat, i < n → Ab (rs (fun k => if k = i then 0 else f k) n) (((n - 1 : Nat) : Rat) * X) := by
  have low : ∀ n : Nat, n ≤ i → Ab (rs (fun k => if k = i then 0 else f k) n) ((n : Rat) * X) := fun n hn => rs_ab fun j hj => by rw [if_neg (by omega)]; exact h j (by omega)
  intro n
  induction n with
  | zero => intro h; omega
  | succ n ih =>
    intro hi
    show Ab (rs (fun k => if k = i then 0 else f k) n + (if n = i then 0 else f n)) _
    by_cases e : n = i
    · subst e
      rw [if_pos rfl, Nat.add_sub_cancel]
      have := low n (Nat.le_refl _)
      exact ⟨by have := this.1; grind, by have := this.2; grind⟩
    · rw [if_neg e]
      have := (ih (by omega)).add (h n e)
      rw [show ((n - 1 : Nat) : Rat) * X + X = ((n - 1 + 1 : Nat) : Rat) * X from by push_cast; grind, show n - 1 + 1 = n + 1 - 1 from by omega] at this
      exact this
theorem dom {n : Nat} {a : Nat → Nat → Rat} {x b : Nat → Rat} {δ γ C ρ M : Rat} (hn : 0 < n) (hd : ∀ i, i < n → δ ≤ a i i) (ho : ∀ i k, i < n → k < n → i ≠ k → Ab (a i k) γ) (hγ : 0 ≤ γ) (hb : ∀ i, i < n → Ab (b i) C) (hr : ∀ i, i < n → Ab (rs (fun k => a i k * x k) n - b i) ρ) (hM : C + ρ ≤ (δ - ((n - 1 : Nat) : Rat) * γ) * M) (hpos : 0 < δ - ((n - 1 : Nat) : Rat) * γ) : ∀ k, k < n → Ab (x k) M := by
  obtain ⟨i, X, h1, h2, h3, h4⟩ := max_ab (x := x) hn
  have e := rs_pick (fun k => a i k * x k) i n
  rw [if_pos h1] at e
  have hole : Ab (rs (fun k => if k = i then 0 else a i k * x k) n) (((n - 1 : Nat) : Rat) * (γ * X)) := by
    have : rs (fun k => if k = i then 0 else a i k * x k) n = rs (fun k => if k = i then 0 else (if k < n then a i k * x k else 0)) n := rs_congr fun k hk => by rw [if_pos hk]
    rw [this]
    exact rs_hole (fun k hk => by
      by_cases hkn : k < n
      · rw [if_pos hkn]; exact (ho i k h1 hkn (fun h => hk h.symm)).mul (h4 k hkn)
      · rw [if_neg hkn]; have := Rat.mul_nonneg hγ h3; exact ⟨by grind, by grind⟩) (Rat.mul_nonneg hγ h3) n h1
  have hR := hr i h1
  rw [e] at hR
  have hB := hb i h1
  generalize rs (fun k => if k = i then 0 else a i k * x k) n = T at *
  have hdi := hd i h1
  have : δ * X ≤ a i i * X := Rat.mul_le_mul_of_nonneg_right hdi h3
  have hm : Ab (a i i * x i) (C + ρ + ((n - 1 : Nat) : Rat) * (γ * X)) := by
    have := (hR.add hB).sub hole
    rw [show a i i * x i + T - b i + b i - T = a i i * x i from by grind] at this
    exact this.mono (by grind)
  have key : δ * X ≤ C + ρ + ((n - 1 : Nat) : Rat) * (γ * X) := by
    rcases h2 with h2 | h2
    · rw [h2] at hm; have := hm.2; grind
    · rw [h2] at hm; have := hm.1; grind
  have hXM : X ≤ M := by
    refine Rat.le_of_mul_le_mul_right (c := δ - ((n - 1 : Nat) : Rat) * γ) ?_ hpos
    grind
  exact fun k hk => (h4 k hk).mono hXM
theorem b10at {a : List Int} (ha : Byt a) {k n : Nat} (h1 : 1 ≤ n) (hk : k ≤ 1000) : ∃ v : Nat, v < n ∧ K01 a (k : Int) (n : Int) = some (v : Int) := by
  unfold K01
  by_cases h : n ≤ 1
  · rw [decide_eq_true (by omega), bsel_true]; exact ⟨0, by omega, rfl⟩
  · rw [decide_eq_false (by omega), bsel_false]
    by_cases hl : k < a.length
    · obtain ⟨x, hx⟩ : ∃ x, a[k]? = some x := ⟨_, List.getElem?_eq_getElem hl⟩
      obtain ⟨x0, x1⟩ := ha x (List.mem_of_getElem? hx)
      rw [decide_eq_true (by omega), bsel_true, at?_of (by omega) (by rw [show (k : Int).toNat = k from by omega]; exact hx), obind_eq]
      simp only [olet_eq]
      rw [wi64 (by omega) (by omega), decide_eq_false (by omega), Bool.not_false, need_true]
      refine ⟨x.toNat % n, Nat.mod_lt _ (by omega), ?_⟩
      rw [Int.tmod_eq_emod_of_nonneg (by omega), Int.natCast_emod, show ((x.toNat : Nat) : Int) = x from by omega]
    · rw [decide_eq_false (by omega), bsel_false]
      simp only [olet_eq]
      rw [show IntKind.i64.wrap ((k : Int) * 37) = (k : Int) * 37 from wi64 (by omega) (by omega), show IntKind.i64.wrap ((k : Int) * 37 + 11) = (k : Int) * 37 + 11 from wi64 (by omega) (by omega), decide_eq_false (by omega), Bool.not_false, need_true]
      refine ⟨(k * 37 + 11) % n, Nat.mod_lt _ (by omega), ?_⟩
      rw [Int.tmod_eq_emod_of_nonneg (by omega), Int.natCast_emod]
      push_cast; rfl
theorem b10long {a b : List Int} : ∃ r, K00 a b = some r := by
  unfold K00
  cases decide (1048576 < (a.length : Int)) with
  | true => exact ⟨_, rfl⟩
  | false => exact ⟨_, rfl⟩
theorem quarter_dy {n : Int} (h : n.natAbs ≤ 1000) : Dy .f32 2 n (fop .quo .f32 (fint .f32 n) (some 1082130432)) := by
  have hd : (2 : Nat) ^ dgn .f32 = 16777216 := by decide
  have h1 : Dy .f32 0 n (fint .f32 n) := Dy.int (by omega)
  have h2 := h1.scale (t := 2) (by decide)
  exact Dy.quo (s := 2) (t := 0) h2 four_dy (by decide) (by omega) (by omega)
theorem b10v_loop {a : List Int} (ha : Byt a) : ∀ (m t : Nat) (L : List F) (s : Int), t + m ≤ 800000 → L.length + m ≤ 1000 →
    ∃ (L' : List F), L'.length = m ∧ (∀ x ∈ L', Qd x) ∧ loopM (K07_s1 a) (L, (t : Int), s, (m : Int)) = some (.inl (L ++ L'))
  | 0, t, L, s, ht, hL => by
    refine ⟨[], rfl, fun x hx => by simp at hx, ?_⟩
    rw [loopM_out (e := L)]
    · simp
    · show K07_b1 a L (t : Int) s ((0 : Nat) : Int) = _
      unfold K07_b1
      rw [decide_eq_false (by omega), bsel_false]
  | m + 1, t, L, s, ht, hL => by
    obtain ⟨v, t1, s1, hv, ht1, e⟩ := src_pick ha (n := 33) (t := t) (by decide) (by decide) (by omega) s
    have e : K05 33 a (t : Int) s = _ := e
    have st : K07_s1 a (L, (t : Int), s, ((m + 1 : Nat) : Int)) = some (.next (L ++ [fop .quo .f32 (fint .f32 ((v : Int) - 16)) (some 1082130432)], (t1 : Int), s1, (m : Int))) := by
      show K07_b1 a L (t : Int) s ((m + 1 : Nat) : Int) = _
      unfold K07_b1
      rw [decide_eq_true (by omega), bsel_true, e, obind3_eq]
      simp only [olet_eq]
      rw [wi64 (by omega) (by omega), show apok 4 L.length 1 = true from by simp only [apok, Bool.and_eq_true, decide_eq_true_eq]; omega, need_true, wi64 (by omega) (by omega), show ((m + 1 : Nat) : Int) - 1 = (m : Int) from by omega]
    obtain ⟨L', h1, h3, h4⟩ := b10v_loop ha m t1 (L ++ [fop .quo .f32 (fint .f32 ((v : Int) - 16)) (some 1082130432)]) s1 (by omega) (by simp; omega)
    refine ⟨fop .quo .f32 (fint .f32 ((v : Int) - 16)) (some 1082130432) :: L', by simp [h1], ?_, ?_⟩
    · intro x hx
      rcases List.mem_cons.1 hx with rfl | hx
      · exact quarter (by omega)
      · exact h3 x hx
    · rw [loopM_next st, h4]; simp
theorem b10vector {a : List Int} (ha : Byt a) {n : Nat} (hn : n ≤ 500) : ∃ L : List F, L.length = n ∧ (∀ x ∈ L, Qd x) ∧ K07 a (n : Int) = some L := by
  obtain ⟨L, h1, h2, h3⟩ := b10v_loop ha n 0 [] 0 (by omega) (by simp; omega)
  refine ⟨L, h1, h2, ?_⟩
  unfold K07 K02
  have h3 : loopM (K07_s1 a) ([], 0, 0, (n : Int)) = _ := h3
  rw [obind3_eq, h3, obind_eq, osum_inl, List.nil_append]; rfl
theorem qd_fv {x : F} (h : Qd x) : Fv x ∧ Ab (vl x) 4 := by
  have h1 := (qd_dy h).fv
  have h2 := qv_le x
  refine ⟨h1.1, ?_⟩
  rw [h1.2]
  have e : (2 : Rat) ^ 2 = 4 := by decide +kernel
  rw [e]
  have l1 : ((-16 : Int) : Rat) ≤ ((qv x : Int) : Rat) := by exact_mod_cast (show (-16 : Int) ≤ qv x by omega)
  have l2 : ((qv x : Int) : Rat) ≤ ((16 : Int) : Rat) := by exact_mod_cast (show qv x ≤ (16 : Int) by omega)
  have c1 : ((-16 : Int) : Rat) = -16 := by decide +kernel
  have c2 : ((16 : Int) : Rat) = 16 := by decide +kernel
  rw [c1] at l1
  rw [c2] at l2
  generalize ((qv x : Int) : Rat) = q at *
  exact ⟨by grind, by grind⟩
def SqE (i k : Nat) (x : F) : Prop := ∃ q : Int, Dy .f32 2 q x ∧ (i = k → 24 ≤ q ∧ q ≤ 32) ∧ (i ≠ k → q.natAbs ≤ 4)
structure SqM (n : Nat) (L : List F) : Prop where
  m : Mat n n L
  e : ∀ i k, i < n → k < n → SqE i k (gm none L n i k)
theorem sq_inner {a : List Int} (ha : Byt a) {n i : Nat} (hn : n ≤ 12) (hi : i < n) : ∀ (m k t : Nat) (L : List F) (s : Int), k + m = n → t + 2 * m ≤ 800000 → L.length = i * n + k →
    ∃ (L' : List F) (t' : Nat) (s' : Int), L'.length = m ∧ t' ≤ t + 2 * m ∧ (∀ j, j < m → SqE i (k + j) (L'.getD j none)) ∧ loopM (K06_s6 (n : Int) a (i : Int)) (L, (t : Int), s, (k : Int)) = some (.inl (L ++ L', (t' : Int), s'))
  | 0, k, t, L, s, hk, ht, hL => by
    refine ⟨[], t, s, rfl, by omega, fun j hj => by omega, ?_⟩
    rw [loopM_out (e := (L, (t : Int), s))]
    · simp
    · show K06_b6 (n : Int) a (i : Int) L (t : Int) s (k : Int) = _
      unfold K06_b6
      rw [decide_eq_false (by omega), bsel_false]
  | m + 1, k, t, L, s, hk, ht, hL => by
    obtain ⟨v, t1, s1, hv, ht1, e⟩ := src_pick ha (n := 9) (t := t) (by decide) (by decide) (by omega) s
    have e : K05 9 a (t : Int) s = _ := e
    have hin : i * n ≤ 144 := Nat.le_trans (Nat.mul_le_mul (show i ≤ 12 by omega) hn) (by decide)
    have st : ∃ (x : F) (t2 : Nat) (s2 : Int), t2 ≤ t + 2 ∧ SqE i k x ∧ K06_s6 (n : Int) a (i : Int) (L, (t : Int), s, (k : Int)) = some (.next (L ++ [x], (t2 : Int), s2, ((k + 1 : Nat) : Int))) := by
      have ap : apok 4 L.length 1 = true := by simp only [apok, Bool.and_eq_true, decide_eq_true_eq]; omega
      by_cases hik : i = k
      · obtain ⟨v2, t2, s2, hv2, ht2, e2⟩ := src_pick ha (n := 9) (t := t1) (by decide) (by decide) (by omega) s1
        have e2 : K05 9 a (t1 : Int) s1 = _ := e2
        refine ⟨fop .quo .f32 (fint .f32 (24 + (v2 : Int))) (some 1082130432), t2, s2, by omega, ⟨24 + (v2 : Int), quarter_dy (by omega), fun _ => by omega, fun h => absurd hik h⟩, ?_⟩
        show K06_b6 (n : Int) a (i : Int) L (t : Int) s (k : Int) = _
        unfold K06_b6
        rw [decide_eq_true (by omega), bsel_true, e, obind3_eq]
        simp only [olet_eq]
        rw [decide_eq_true (by omega), bsel_true, e2, obind3_eq, wi64 (by omega) (by omega)]
        unfold K06_k5
        rw [ap, need_true, olet_eq, wsucc (by omega)]
      · refine ⟨fop .quo .f32 (fint .f32 ((v : Int) - 4)) (some 1082130432), t1, s1, by omega, ⟨(v : Int) - 4, quarter_dy (by omega), fun h => absurd h hik, fun _ => by omega⟩, ?_⟩
        show K06_b6 (n : Int) a (i : Int) L (t : Int) s (k : Int) = _
        unfold K06_b6
        rw [decide_eq_true (by omega), bsel_true, e, obind3_eq]
        simp only [olet_eq]
        rw [decide_eq_false (by omega), bsel_false, wi64 (by omega) (by omega)]
        unfold K06_k5
        rw [ap, need_true, olet_eq, wsucc (by omega)]
    obtain ⟨x, t2, s2, ht2, hx, st⟩ := st
    obtain ⟨L', t', s', h1, h2, h3, h4⟩ := sq_inner ha hn hi m (k + 1) t2 (L ++ [x]) s2 (by omega) (by omega) (by simp [hL]; omega)
    refine ⟨x :: L', t', s', by simp [h1], by omega, fun j hj => ?_, by rw [loopM_next st, h4]; simp⟩
    match j with
    | 0 => exact hx
    | j + 1 => rw [show k + (j + 1) = k + 1 + j from by omega]; exact h3 j (by omega)
theorem divmod_at {n i r : Nat} (h : r < n) : (i * n + r) / n = i ∧ (i * n + r) % n = r := by
  have h0 : 0 < n := by omega
  constructor
  · rw [Nat.mul_comm, Nat.mul_add_div h0, Nat.div_eq_of_lt h]; omega
  · rw [Nat.mul_comm, Nat.mul_add_mod, Nat.mod_eq_of_lt h]
theorem sq_outer {a : List Int} (ha : Byt a) {n : Nat} (hn : n ≤ 12) : ∀ (m i t : Nat) (L : List F) (s : Int), i + m = n → t + 24 * m ≤ 700000 → L.length = i * n → (∀ p, p < L.length → SqE (p / n) (p % n) (L.getD p none)) →
    ∃ (L' : List F), L'.length = n * n ∧ (∀ p, p < L'.length → SqE (p / n) (p % n) (L'.getD p none)) ∧ loopM (K06_s7 (n : Int) a) (L, (t : Int), s, (i : Int)) = some (.inl L')
  | 0, i, t, L, s, hi, ht, hL, hP => by
    have : i = n := by omega
    subst this
    refine ⟨L, hL, hP, ?_⟩
    rw [loopM_out (e := L)]
    show K06_b7 (i : Int) a L (t : Int) s (i : Int) = _
    unfold K06_b7
    rw [dnlt, bsel_false]
  | m + 1, i, t, L, s, hi, ht, hL, hP => by
    obtain ⟨R, t1, s1, h1, h2, h3, h4⟩ := sq_inner ha hn (show i < n by omega) n 0 t L s (by omega) (by omega) (by omega)
    have st : K06_s7 (n : Int) a (L, (t : Int), s, (i : Int)) = some (.next (L ++ R, (t1 : Int), s1, ((i + 1 : Nat) : Int))) := by
      show K06_b7 (n : Int) a L (t : Int) s (i : Int) = _
      unfold K06_b7
      have h4 : loopM (K06_s6 (n : Int) a (i : Int)) (L, (t : Int), s, 0) = _ := h4
      rw [dlt (by omega), bsel_true, h4, obind_eq, osum_inl]
      unfold K06_k6
      rw [olet_eq, wsucc (by omega)]
    have hn0 : 0 < n := by omega
    obtain ⟨L', g1, g2, g3⟩ := sq_outer ha hn m (i + 1) t1 (L ++ R) s1 (by omega) (by omega) (by rw [List.length_append, hL, h1, Nat.add_mul, Nat.one_mul]) (fun p hp => by
      rw [List.length_append, h1] at hp
      by_cases hpl : p < L.length
      · rw [getD_appG hpl]; exact hP p hpl
      · have e : (L ++ R).getD p none = R.getD (p - L.length) none := by
          rw [List.getD_eq_getElem?_getD, List.getElem?_append_right (by omega), ← List.getD_eq_getElem?_getD]
        have := h3 (p - L.length) (by omega)
        rw [e]
        rw [hL] at hpl hp this ⊢
        obtain ⟨r, rfl⟩ : ∃ r, p = i * n + r := ⟨p - i * n, by omega⟩
        obtain ⟨e1, e2⟩ := divmod_at (i := i) (show r < n by omega)
        rw [e1, e2]
        rw [Nat.add_sub_cancel_left] at this ⊢
        rw [Nat.zero_add] at this; exact this)
    exact ⟨L', g1, g2, by rw [loopM_next st, g3]⟩
theorem b10square {a : List Int} (ha : Byt a) {n : Nat} (hn : n ≤ 12) : ∃ L : List F, SqM n L ∧ K06 a (n : Int) = some ((n : Int), (n : Int), L) := by
  obtain ⟨L, h1, h2, h3⟩ := sq_outer ha hn n 0 0 [] 0 (by omega) (by omega) (by simp) (fun p hp => by simp at hp)
  refine ⟨L, ⟨⟨hn, hn, h1⟩, fun i k hi hk => ?_⟩, ?_⟩
  · have := h2 (i * n + k) (by rw [h1]; exact idx_lt hi hk)
    obtain ⟨e1, e2⟩ := divmod_at (i := i) hk
    rw [e1, e2] at this
    exact this
  · unfold K06 K02 K03
    have h3 : loopM (K06_s7 (n : Int) a) ([], 0, 0, 0) = _ := h3
    rw [obind3_eq, obind3_eq, h3, obind_eq, osum_inl]; rfl
theorem sqE_fv {i k : Nat} {x : F} (h : SqE i k x) : Fv x ∧ (i = k → 6 ≤ vl x ∧ vl x ≤ 8) ∧ (i ≠ k → Ab (vl x) 1) := by
  obtain ⟨q, h1, h2, h3⟩ := h
  have g := h1.fv
  refine ⟨g.1, fun e => ?_, fun e => ?_⟩ <;> rw [g.2, show (2 : Rat) ^ 2 = 4 from by decide +kernel]
  · obtain ⟨a, b⟩ := h2 e
    have l1 : ((24 : Int) : Rat) ≤ ((q : Int) : Rat) := by exact_mod_cast a
    have l2 : ((q : Int) : Rat) ≤ ((32 : Int) : Rat) := by exact_mod_cast b
    rw [show ((24 : Int) : Rat) = 24 from by decide +kernel] at l1
    rw [show ((32 : Int) : Rat) = 32 from by decide +kernel] at l2
    generalize ((q : Int) : Rat) = z at *
    exact ⟨by grind, by grind⟩
  · have a := h3 e
    have l1 : ((-4 : Int) : Rat) ≤ ((q : Int) : Rat) := by exact_mod_cast (show (-4 : Int) ≤ q by omega)
    have l2 : ((q : Int) : Rat) ≤ ((4 : Int) : Rat) := by exact_mod_cast (show q ≤ (4 : Int) by omega)
    rw [show ((-4 : Int) : Rat) = -4 from by decide +kernel] at l1
    rw [show ((4 : Int) : Rat) = 4 from by decide +kernel] at l2
    generalize ((q : Int) : Rat) = z at *
    exact ⟨by grind, by grind⟩
theorem SqM.oks {n : Nat} {L : List F} (h : SqM n L) : ∀ x ∈ L, Fv x := fun x hx => by
  obtain ⟨i, k, hi, hk, rfl⟩ := mem_gm h.m hx
  exact (sqE_fv (h.e i k hi hk)).1
theorem one_fv : Fv (some 1065353216) ∧ vl (some 1065353216) = 1 := by
  have e : fint .f32 1 = some 1065353216 := by decide +kernel
  have := (Dy.int (k := .f32) (n := 1) (by decide)).fv
  rw [e, show ((1 : Int) : Rat) / 2 ^ 0 = 1 from by decide +kernel] at this
  exact this
def tO : Nat → Rat | 0 => 1 | 1 => 1168 / 1000 | 2 => 1403 / 1000 | 3 => 1755 / 1000 | 4 => 2344 / 1000 | _ => 4
def tD : Nat → Rat | 0 => 6 | 1 => 5832 / 1000 | 2 => 5597 / 1000 | 3 => 5245 / 1000 | 4 => 4656 / 1000 | _ => 3
def tQ : Nat → Rat | 0 => 168 / 1000 | 1 => 235 / 1000 | 2 => 352 / 1000 | 3 => 589 / 1000 | _ => 1190 / 1000
theorem tO_high (j : Nat) (hj : j < 4) : tO j ≤ 1755 / 1000 := by
  match j, hj with
  | 0, _ => decide +kernel
  | 1, _ => decide +kernel
  | 2, _ => decide +kernel
  | 3, _ => decide +kernel
theorem getD_mem {l : List F} {i : Nat} (h : i < l.length) : l.getD i none ∈ l := List.mem_of_getElem? (getD_of_lt none h)
theorem mem_getD {l : List F} {x : F} (h : x ∈ l) : ∃ i, i < l.length ∧ x = l.getD i none := by
  obtain ⟨i, hi, rfl⟩ := List.mem_iff_getElem.1 h
  exact ⟨i, hi, by rw [List.getD_eq_getElem?_getD, List.getElem?_eq_getElem hi]; rfl⟩
theorem s_flip_fv {n : Nat} {R : List F} (m : Mat n n R) (n0 : 0 < n) (fR : ∀ x ∈ R, Fv x) : K2u (n : Int) (n : Int) R = some ((n : Int), (n : Int), true, flipM n R) := by
  unfold K2u
  rw [K2j_eq _ _ (fun y hy => (fR y hy).fok) m.le, mat_valid m n0 n0, show R.all fin32 = true from List.all_eq_true.2 fun y hy => (fR y hy).fin, obind_eq, bsel_true, K2t_eq m, obind3_eq]
theorem s_mul_fv {A B C : Nat} {L M : List F} (m : Mat A B L) (n : Mat B C M) (fL : ∀ x ∈ L, Fv x) (fM : ∀ x ∈ M, Fv x) (hA : 0 < A) (hB : 0 < B) (hC : 0 < C) (fP : ∀ i k, i < A → k < C → Fv (mulE B C L M i k)) : K36 (A : Int) (B : Int) L (B : Int) (C : Int) M = some ((A : Int), (C : Int), true, tabM A C (mulE B C L M)) := by
  rw [K36_eq m n (fun y hy => (fL y hy).fok) (fun y hy => (fM y hy).fok) hA hB hC]
  unfold mulQ
  rw [show L.all fin32 = true from List.all_eq_true.2 fun y hy => (fL y hy).fin, show M.all fin32 = true from List.all_eq_true.2 fun y hy => (fM y hy).fin, tab_fin m.A1 n.C1 fun i k hi hk => (fP i k hi hk).fin]; rfl
theorem times_near {n : Nat} {L X b : List F} (h : SqM n L) (h5 : n ≤ 5) (n0 : 0 < n) (lX : X.length = n) (fX : ∀ x ∈ X, Fv x) (hX : ∀ i, i < n → Ab (vl (X.getD i none)) (201 / 100) ∧ Ab (rs (fun k => vl (gm none L n i k) * vl (X.getD k none)) n - vl (b.getD i none)) (8 / 10000)) :
    ∀ i, i < n → Fv (dotN (fun k => gm none L n i k) (fun k => X.getD k none) n) ∧ Ab (vl (dotN (fun k => gm none L n i k) (fun k => X.getD k none) n) - vl (b.getD i none)) (9 / 10000) := by
  intro i hi
  have p : ∀ j, j < n → Ab (vl (gm none L n i j) * vl (X.getD j none)) (17) := fun j hj => by
    have hb : Ab (vl (gm none L n i j)) 8 := by
      obtain ⟨_, e1, e2⟩ := sqE_fv (h.e i j hi hj)
      by_cases e : i = j
      · have := e1 e; exact ⟨by grind, this.2⟩
      · exact (e2 e).mono (by decide +kernel)
    exact (hb.mul (hX j hj).1).mono (by decide +kernel)
  obtain ⟨d1, d2⟩ := dotN_near (f := fun j => gm none L n i j) (g := fun j => X.getD j none) (P := 17) (S := 85) (e := 13 / 1000000) (n := n) (by omega) (fun j hj => ⟨(sqE_fv (h.e i j hi hj)).1, fX _ (getD_mem (by omega)), p j hj⟩) (fun j hj => (rs_ab16 hj h5 (by decide +kernel) p).mono (by decide +kernel)) (by decide +kernel) (by decide +kernel) (by decide +kernel) (by decide +kernel) (by decide +kernel)
  refine ⟨d1, ?_⟩
  have hn5 : (n : Rat) ≤ 5 := by exact_mod_cast h5
  have := d2.add (hX i hi).2
  generalize rs (fun t => vl (gm none L n i t) * vl (X.getD t none)) n = T at *
  rw [show vl (dotN (fun k => gm none L n i k) (fun k => X.getD k none) n) - T + (T - vl (b.getD i none)) = vl (dotN (fun k => gm none L n i k) (fun k => X.getD k none) n) - vl (b.getD i none) from by grind] at this
  exact this.mono (by grind)
theorem set_getD {L : List F} {p q : Nat} {x : F} (hp : p < L.length) : (L.set p x).getD q none = if p = q then x else L.getD q none := by
  rw [List.getD_eq_getElem?_getD, List.getD_eq_getElem?_getD]
  by_cases e : p = q
  · subst e; rw [if_pos rfl, List.getElem?_set_self hp]; rfl
  · rw [if_neg e, List.getElem?_set_ne e]
theorem fv_abs {c : F} (h : Fv c) : Fv (fabs32 c) ∧ (vl (fabs32 c) = vl c ∨ vl (fabs32 c) = -vl c) ∧ 0 ≤ vl (fabs32 c) := by
  obtain ⟨n, ⟨b, e, h1, h2, _, h3⟩, h4⟩ := h.rv
  subst e
  have hp := p2 (lpn .f32)
  have w := rv_word (k := .f32) (s := false) (r := wrung FloatKind.f32.format b) h2
  have ew : FloatKind.f32.format.word false (wrung FloatKind.f32.format b) = b % 2147483648 := rfl
  rw [ew] at w
  have e2 : fabs32 (some b) = some (b % 2147483648) := rfl
  rw [e2]
  have v := w.vl
  unfold sg at v
  simp only [Bool.false_eq_true, if_false] at v
  have r0 : (0 : Rat) ≤ ((rval FloatKind.f32.format (wrung FloatKind.f32.format b) : Nat) : Rat) := by exact_mod_cast Nat.zero_le _
  have d := div_mul_pos (a := ((rval FloatKind.f32.format (wrung FloatKind.f32.format b) : Nat) : Rat)) hp
  refine ⟨w.fv, ?_, by rw [v]; exact div_nonneg hp r0⟩
  rw [v]
  rw [Nat.sub_self] at h3
  unfold fval at h3
  have h5 : sval (wneg FloatKind.f32.format b) (rval FloatKind.f32.format (wrung FloatKind.f32.format b)) = n := by simpa using h3
  rw [← h5] at h4
  generalize ((rval FloatKind.f32.format (wrung FloatKind.f32.format b) : Nat) : Rat) / 2 ^ lpn .f32 = z at *
  unfold sval at h4
  cases hw : wneg FloatKind.f32.format b with
  | false =>
    rw [hw] at h4
    left
    simp only [Bool.false_eq_true, if_false, Rat.intCast_natCast] at h4
    have : (z - vl (some b)) * 2 ^ lpn .f32 = 0 := by grind
    rcases Rat.mul_eq_zero.1 this with h | h <;> grind
  | true =>
    rw [hw] at h4
    right
    simp only [if_true] at h4
    push_cast at h4
    have : (z + vl (some b)) * 2 ^ lpn .f32 = 0 := by grind
    rcases Rat.mul_eq_zero.1 this with h | h <;> grind
theorem find_diag {n k : Nat} {L : List F} (hk : Fv (gm none L n k k)) (h : ∀ r, k < r → r < n → Fv (gm none L n r k) ∧ Ab (vl (gm none L n r k)) (vl (gm none L n k k))) : ∀ m, k + 1 + m ≤ n → run (findP n k L) (k + 1) m k = k
  | 0, _ => rfl
  | m + 1, hm => by
    rw [run_last, find_diag hk h m (by omega)]
    unfold findP
    obtain ⟨f1, b1⟩ := h (k + 1 + m) (by omega) (by omega)
    obtain ⟨a1, a2, a3⟩ := fv_abs f1
    obtain ⟨c1, c2, c3⟩ := fv_abs hk
    have n0 := b1.nonneg
    rw [fv_lt c1 a1, decide_eq_false, if_neg (by decide)]
    obtain ⟨b2, b3⟩ := b1
    rcases a2 with a2 | a2 <;> rcases c2 with c2 | c2 <;> rw [a2, c2] <;> grind
theorem swapP_self {n k c : Nat} {L : List F} (m : Mat n n L) (hk : k < n) (hc : c < n) : swapP none n k k c L = L := by
  refine mat_ext (swapP_mat m) m fun i j hi hj => ?_
  unfold swapP
  rw [gm_set (m.set _ _ _) hk hc hj, gm_set m hk hc hj]
  by_cases e : k = i ∧ c = j
  · obtain ⟨rfl, rfl⟩ := e; rw [if_pos ⟨rfl, rfl⟩]
  · rw [if_neg e, if_neg e]
theorem swapR_self {n k : Nat} {L : List F} (m : Mat n n L) (hk : k < n) : swapR none n k k L = L := by
  unfold swapR
  have := run_inv (f := swapP none n k k) (fun _ L' => L' = L) n 0 L rfl fun j L' _ hj h => by rw [h]; exact swapP_self m hk (by omega)
  exact this
theorem tradeP_self {k : Nat} {o : List Int} (hk : k < o.length) : tradeP k k o = o := by
  unfold tradeP
  apply List.ext_getElem?
  intro i
  by_cases e : k = i
  · subst e
    rw [List.getElem?_set_self (by simp [hk]), getD_of_lt 0 hk]
  · rw [List.getElem?_set_ne e, List.getElem?_set_ne e]
theorem elimRow_gm {n k r : Nat} {L : List F} (m : Mat n n L) (hr : r < n) (hk : k < n) (hkr : k < r) : ∀ j, j < n → gm none (elimRow n k r L) n r j = if j < k then gm none L n r j else if j = k then fop .quo .f32 (gm none L n r k) (gm none L n k k) else fop .sub .f32 (gm none L n r j) (fop .mul .f32 (fop .quo .f32 (gm none L n r k) (gm none L n k k)) (gm none L n k j)) := by
  unfold elimRow
  generalize fop .quo .f32 (gm none L n r k) (gm none L n k k) = f
  have inv := run_inv (f := elimE n k r f) (fun q (L' : List F) => Mat n n L' ∧ (∀ j, j < n → gm none L' n k j = gm none L n k j) ∧ ∀ j, j < n → gm none L' n r j = if j < k then gm none L n r j else if j = k then f else if j < q then fop .sub .f32 (gm none L n r j) (fop .mul .f32 f (gm none L n k j)) else gm none L n r j) (n - (k + 1)) (k + 1) (sm L n r k f)
    ⟨m.set _ _ _, fun j hj => by rw [gm_set m hr hk hj, if_neg (by omega)], fun j hj => by
      rw [gm_set m hr hk hj]
      by_cases e : j < k
      · rw [if_neg (by omega), if_pos e]
      · rw [if_neg e]
        by_cases e2 : j = k
        · rw [if_pos ⟨rfl, e2.symm⟩, if_pos e2]
        · rw [if_neg (by omega), if_neg e2, if_neg (by omega)]⟩
    (fun q L' h1 h2 ⟨i1, i2, i3⟩ => by
      have hq : q < n := by omega
      refine ⟨elimE_mat i1, fun j hj => by unfold elimE; rw [gm_set i1 hr hq hj, if_neg (by omega)]; exact i2 j hj, fun j hj => ?_⟩
      have v1 : gm none L' n r q = gm none L n r q := by rw [i3 q hq, if_neg (by omega), if_neg (by omega), if_neg (by omega)]
      unfold elimE
      rw [gm_set i1 hr hq hj, v1, i2 q hq, i3 j hj]
      by_cases e : q = j
      · subst e
        rw [if_pos ⟨rfl, rfl⟩, if_neg (by omega), if_neg (by omega), if_pos (by omega)]
      · rw [if_neg (by omega)]
        by_cases e1 : j < k
        · rw [if_pos e1, if_pos e1]
        · rw [if_neg e1, if_neg e1]
          by_cases e2 : j = k
          · rw [if_pos e2, if_pos e2]
          · rw [if_neg e2, if_neg e2]
            by_cases e3 : j < q
            · rw [if_pos e3, if_pos (by omega)]
            · rw [if_neg e3, if_neg (by omega)])
  intro j hj
  have := inv.2.2 j hj
  rw [this]
  by_cases e1 : j < k
  · rw [if_pos e1, if_pos e1]
  · rw [if_neg e1, if_neg e1]
    by_cases e2 : j = k
    · rw [if_pos e2, if_pos e2]
    · rw [if_neg e2, if_neg e2, if_pos (by omega)]
theorem elim_gm {n k : Nat} {L : List F} (m : Mat n n L) (hk : k < n) : ∀ i j, i < n → j < n → gm none (elimP n n k L) n i j = if k < i then (if j < k then gm none L n i j else if j = k then fop .quo .f32 (gm none L n i k) (gm none L n k k) else fop .sub .f32 (gm none L n i j) (fop .mul .f32 (fop .quo .f32 (gm none L n i k) (gm none L n k k)) (gm none L n k j))) else gm none L n i j := by
  unfold elimP
  have inv := run_inv (f := elimRow n k) (fun q (L' : List F) => Mat n n L' ∧ ∀ i j, i < n → j < n → gm none L' n i j = if k < i ∧ i < q then (if j < k then gm none L n i j else if j = k then fop .quo .f32 (gm none L n i k) (gm none L n k k) else fop .sub .f32 (gm none L n i j) (fop .mul .f32 (fop .quo .f32 (gm none L n i k) (gm none L n k k)) (gm none L n k j))) else gm none L n i j) (n - (k + 1)) (k + 1) L
    ⟨m, fun i j hi hj => by rw [if_neg (by omega)]⟩ (fun q L' h1 h2 ⟨i1, i2⟩ => by
      have hq : q < n := by omega
      refine ⟨elimRow_mat i1, fun i j hi hj => ?_⟩
      by_cases e : q = i
      · subst e
        have G := elimRow_gm i1 hq hk (by omega) j hj
        have r1 : ∀ j, j < n → gm none L' n q j = gm none L n q j := fun j hj => by rw [i2 q j hq hj, if_neg (by omega)]
        have r2 : ∀ j, j < n → gm none L' n k j = gm none L n k j := fun j hj => by rw [i2 k j hk hj, if_neg (by omega)]
        rw [r1 j hj, r1 k hk, r2 k hk, r2 j hj] at G
        rw [G, if_pos (show k < q ∧ q < q + 1 by omega)]
      · rw [elimRow_keep i1 hq hk hj e, i2 i j hi hj]
        by_cases e2 : k < i ∧ i < q
        · rw [if_pos e2, if_pos (show k < i ∧ i < q + 1 by omega)]
        · rw [if_neg e2, if_neg (show ¬ (k < i ∧ i < q + 1) by omega)])
  intro i j hi hj
  rw [inv.2 i j hi hj]
  by_cases e : k < i
  · rw [if_pos (show k < i ∧ i < k + 1 + (n - (k + 1)) by omega), if_pos e]
  · rw [if_neg (show ¬ (k < i ∧ i < k + 1 + (n - (k + 1))) by omega), if_neg e]
def slu (a w : Nat → Nat → Rat) (j i c : Nat) : Rat := a i c - rs (fun t => w i t * w t c) j
theorem slu_succ (a w : Nat → Nat → Rat) (j i c : Nat) : slu a w (j + 1) i c = slu a w j i c - w i j * w j c := by
  show a i c - (rs (fun t => w i t * w t c) j + w i j * w j c) = a i c - rs (fun t => w i t * w t c) j - w i j * w j c
  grind
theorem slu_zero (a w : Nat → Nat → Rat) (i c : Nat) : slu a w 0 i c = a i c := by
  show a i c - 0 = a i c
  grind
theorem prodl_bound {u v p s1 s2 s3 O D q c : Rat} (h1 : Ab (u * p - s1) c) (h2 : Ab (v - s2) c) (h3 : Ab (p - s3) c) (b1 : Ab s1 O) (b2 : Ab s2 O) (b3 : D ≤ s3) (hq : (O + c) * (O + c) ≤ q * (D - c)) (hD : 0 < D - c) (q0 : 0 ≤ q) : Ab (u * v) q := by
  have a1 : Ab (u * p) (O + c) := by
    have := h1.add b1
    rw [show u * p - s1 + s1 = u * p from by grind] at this
    exact this.mono (by grind)
  have a2 : Ab v (O + c) := by
    have := h2.add b2
    rw [show v - s2 + s2 = v from by grind] at this
    exact this.mono (by grind)
  have pp : D - c ≤ p := by have := h3.1; grind
  have m := a1.mul a2
  rw [show u * p * v = u * v * p from by grind] at m
  have qp : q * (D - c) ≤ q * p := Rat.mul_le_mul_of_nonneg_left pp q0
  have pos : 0 < p := by grind
  obtain ⟨m1, m2⟩ := m
  exact ⟨Rat.le_of_mul_le_mul_right (c := p) (by grind) pos, Rat.le_of_mul_le_mul_right (c := p) (by grind) pos⟩
structure LTab (n : Nat) (a : Nat → Nat → Rat) : Prop where
  n5 : n ≤ 5
  off : ∀ i k, i < n → k < n → i ≠ k → Ab (a i k) 1
  dia : ∀ i, i < n → 6 ≤ a i i ∧ a i i ≤ 8
def tU : Nat → Rat | 0 => 8 | 1 => 8168 / 1000 | 2 => 8403 / 1000 | 3 => 8755 / 1000 | 4 => 9344 / 1000 | _ => 11
theorem l_num (j : Nat) (hj : j < 5) : (tO j + cE) * (tO j + cE) ≤ tQ j * (tD j - cE) ∧ 0 ≤ tQ j ∧ tQ j ≤ 12 / 10 ∧ tO j + tQ j ≤ tO (j + 1) ∧ tD (j + 1) ≤ tD j - tQ j ∧ tU j + tQ j ≤ tU (j + 1) ∧ 4656 / 1000 ≤ tD j ∧ 0 ≤ tO j ∧ tO j ≤ 24 / 10 ∧ tU j ≤ 94 / 10 := by
  match j, hj with
  | 0, _ => decide +kernel
  | 1, _ => decide +kernel
  | 2, _ => decide +kernel
  | 3, _ => decide +kernel
  | 4, _ => decide +kernel
structure Lud (n : Nat) (a w : Nat → Nat → Rat) (k : Nat) : Prop where
  lo : ∀ i t, t < k → t < i → i < n → Ab (w i t * w t t - slu a w t i t) cE
  up : ∀ i j, i < k → i ≤ j → j < n → Ab (w i j - slu a w i i j) cE
structure SL (a w : Nat → Nat → Rat) (j x y : Nat) : Prop where
  off : x ≠ y → Ab (slu a w j x y) (tO j)
  dia : x = y → tD j ≤ slu a w j x x ∧ slu a w j x x ≤ tU j
theorem slu_bound {n : Nat} {a w : Nat → Nat → Rat} {k : Nat} (T : LTab n a) (hk : k ≤ n) (h : Lud n a w k) : ∀ j, j ≤ k → (∀ x y, j ≤ x → j ≤ y → x < n → y < n → SL a w j x y) ∧ (j < k → ∀ x y, j < x → j < y → x < n → y < n → Ab (w x j * w j y) (tQ j)) := by
  have n5 := T.n5
  have step : ∀ j, j ≤ k → (∀ x y, j ≤ x → j ≤ y → x < n → y < n → SL a w j x y) → (j < k → ∀ x y, j < x → j < y → x < n → y < n → Ab (w x j * w j y) (tQ j)) := by
    intro j hj ih hjk x y hx hy hxn hyn
    obtain ⟨q1, q2, q3, q4, q5, q6, q7, q8, q9, q10⟩ := l_num j (by omega)
    exact prodl_bound (h.lo x j hjk hx hxn) (h.up j y hjk (by omega) hyn) (h.up j j hjk (Nat.le_refl _) (by omega)) ((ih x j (by omega) (Nat.le_refl _) hxn (by omega)).off (by omega)) ((ih j y (Nat.le_refl _) (by omega) (by omega) hyn).off (by omega)) ((ih j j (Nat.le_refl _) (Nat.le_refl _) (by omega) (by omega)).dia rfl).1 q1 (by unfold cE; grind) q2
  intro j
  induction j with
  | zero =>
    intro h0
    have b : ∀ x y, 0 ≤ x → 0 ≤ y → x < n → y < n → SL a w 0 x y := fun x y _ _ hx hy => by
      refine ⟨fun hne => ?_, fun e => ?_⟩ <;> rw [slu_zero]
      · exact T.off x y hx hy hne
      · exact T.dia x hx
    exact ⟨b, step 0 h0 b⟩
  | succ j ih =>
    intro hj
    obtain ⟨ih1, ih2⟩ := ih (by omega)
    obtain ⟨q1, q2, q3, q4, q5, q6, q7, q8, q9, q10⟩ := l_num j (by omega)
    have b : ∀ x y, j + 1 ≤ x → j + 1 ≤ y → x < n → y < n → SL a w (j + 1) x y := fun x y hx hy hxn hyn => by
      have p := ih2 (by omega) x y (by omega) (by omega) hxn hyn
      have B := ih1 x y (by omega) (by omega) hxn hyn
      refine ⟨fun hne => ?_, fun e => ?_⟩ <;> rw [slu_succ]
      · exact ((B.off hne).sub p).mono q4
      · subst e
        have := B.dia rfl
        obtain ⟨p1, p2⟩ := p
        exact ⟨by grind, by grind⟩
    exact ⟨b, step (j + 1) hj b⟩
structure LuInv (n : Nat) (a : Nat → Nat → Rat) (k : Nat) (L : List F) : Prop where
  m : Mat n n L
  fv : ∀ i j, i < n → j < n → Fv (gm none L n i j)
  d : Lud n a (vm n L) k
  act : ∀ i j, k ≤ i → k ≤ j → i < n → j < n → Ab (vm n L i j - slu a (vm n L) k i j) ((k : Rat) * (1 / 400000))
theorem slu_congr {a w w' : Nat → Nat → Rat} {j i c : Nat} (h1 : ∀ t, t < j → w' i t = w i t) (h2 : ∀ t, t < j → w' t c = w t c) : slu a w' j i c = slu a w j i c := by
  unfold slu; rw [rs_congr fun t ht => by rw [h1 t ht, h2 t ht]]
theorem lu_step {n k : Nat} {a : Nat → Nat → Rat} {L : List F} (T : LTab n a) (hk : k < n) (h : LuInv n a k L) :
    run (findP n k L) (k + 1) (n - (k + 1)) k = k ∧ feq .f32 (gm none L n k k) (some 0) = false ∧ LuInv n a (k + 1) (elimP n n k L) := by
  have n5 := T.n5
  have c0 : cE = 3 / 100000 := rfl
  obtain ⟨B, _⟩ := slu_bound T (by omega) h.d k (Nat.le_refl _)
  obtain ⟨q1, q2, q3, q4, q5, q6, q7, q8, q9, q10⟩ := l_num k (by omega)
  have hk4 : (k : Rat) * (1 / 400000) ≤ 1 / 100000 := by
    have : (k : Rat) ≤ 4 := by exact_mod_cast (show k ≤ 4 by omega)
    grind
  have hk0 : (0 : Rat) ≤ (k : Rat) := by exact_mod_cast Nat.zero_le k
  have dk := (B k k (Nat.le_refl _) (Nat.le_refl _) hk hk).dia rfl
  have ak := h.act k k (Nat.le_refl _) (Nat.le_refl _) hk hk
  have wk : 464 / 100 ≤ vm n L k k ∧ vm n L k k ≤ 95 / 10 := ⟨by have := ak.1; grind, by have := ak.2; grind⟩
  have off : ∀ i j, k ≤ i → k ≤ j → i < n → j < n → i ≠ j → Ab (vm n L i j) (tO k + 1 / 100000) := fun i j hi hj hin hjn hne => by
    have := (h.act i j hi hj hin hjn).add ((B i j hi hj hin hjn).off hne)
    rw [show vm n L i j - slu a (vm n L) k i j + slu a (vm n L) k i j = vm n L i j from by grind] at this
    exact this.mono (by grind)
  have f0 : ∀ i, k < i → i < n → Fv (fop .quo .f32 (gm none L n i k) (gm none L n k k)) ∧ Ab (vl (fop .quo .f32 (gm none L n i k) (gm none L n k k)) * vm n L k k - vm n L i k) (2 / 1000000) ∧ Ab (vl (fop .quo .f32 (gm none L n i k) (gm none L n k k))) (53 / 100) := fun i hki hi => by
    have o := off i k (by omega) (Nat.le_refl _) hi hk (by omega)
    have pos : 0 < vm n L k k := by grind
    have ne : vm n L k k ≠ 0 := by grind
    have hq : Ab (vm n L i k / vm n L k k) (52 / 100) := by
      have e1 : vm n L i k / vm n L k k * vm n L k k = vm n L i k := by grind
      obtain ⟨a1, a2⟩ := o
      exact ⟨Rat.le_of_mul_le_mul_right (c := vm n L k k) (by rw [e1]; grind) pos, Rat.le_of_mul_le_mul_right (c := vm n L k k) (by rw [e1]; grind) pos⟩
    obtain ⟨c1, c2⟩ := fv_quo (h.fv i k hi hk) (h.fv k k hk hk) ne hq (by decide +kernel)
    have c2 : Ab (vl (fop .quo .f32 (gm none L n i k) (gm none L n k k)) - vm n L i k / vm n L k k) (e32 (52 / 100)) := c2
    generalize vl (fop .quo .f32 (gm none L n i k) (gm none L n k k)) = c at *
    have e1 : e32 (52 / 100) ≤ 1 / 10000000 := by decide +kernel
    refine ⟨c1, ?_, ?_⟩
    · have m := (c2.mono e1).mul (show Ab (vm n L k k) 10 from ⟨by grind, by grind⟩)
      rw [show (c - vm n L i k / vm n L k k) * vm n L k k = c * vm n L k k - vm n L i k from by grind] at m
      exact m.mono (by grind)
    · have := c2.add hq
      rw [show c - vm n L i k / vm n L k k + vm n L i k / vm n L k k = c from by grind] at this
      exact this.mono (by grind)
  have g := elim_gm h.m hk
  have mE := elimP_mat (A := n) (k := k) h.m
  generalize elimP n n k L = M at *
  have g1 : ∀ i j, i < n → j < n → ¬ (k < i ∧ k ≤ j) → vm n M i j = vm n L i j := fun i j hi hj hne => by
    unfold vm; rw [g i j hi hj]
    by_cases e : k < i
    · rw [if_pos e, if_pos (by omega)]
    · rw [if_neg e]
  have g2 : ∀ i, k < i → i < n → vm n M i k = vl (fop .quo .f32 (gm none L n i k) (gm none L n k k)) := fun i hki hi => by
    unfold vm; rw [g i k hi hk, if_pos hki, if_neg (by omega), if_pos rfl]
  have ss : ∀ i c, i < n → c < n → slu a (vm n M) k i c = slu a (vm n L) k i c := fun i c hi hc => slu_congr (fun t ht => g1 i t hi (by omega) (by omega)) (fun t ht => g1 t c (by omega) hc (by omega))
  refine ⟨find_diag (h.fv k k hk hk) (fun r h1 h2 => ⟨h.fv r k h2 hk, (off r k (by omega) (Nat.le_refl _) h2 hk (by omega)).mono (by show tO k + 1 / 100000 ≤ vm n L k k; grind)⟩) _ (by omega), ?_, mE, fun i j hi hj => ?_, ⟨fun i t ht hti hi => ?_, fun i j hik hij hj => ?_⟩, fun i j hi hj hin hjn => ?_⟩
  · rw [fv_eq (h.fv k k hk hk) fv_zero.1, fv_zero.2, decide_eq_false (by show ¬ vm n L k k = 0; grind)]
  · rw [g i j hi hj]
    by_cases e : k < i
    · rw [if_pos e]
      by_cases e1 : j < k
      · rw [if_pos e1]; exact h.fv i j hi hj
      · rw [if_neg e1]
        by_cases e2 : j = k
        · rw [if_pos e2]; exact (f0 i e hi).1
        · rw [if_neg e2]
          obtain ⟨p1, _, p3⟩ := f0 i e hi
          have o := off k j (Nat.le_refl _) (by omega) hk hj (by omega)
          have hw : Ab (vm n L i j) 10 := by
            by_cases e3 : i = j
            · subst e3
              have d := (B i i (by omega) (by omega) hi hi).dia rfl
              have a := h.act i i (by omega) (by omega) hi hi
              exact ⟨by have := a.1; grind, by have := a.2; grind⟩
            · exact (off i j (by omega) (by omega) hi hj e3).mono (by grind)
          have hP : Ab (vl (fop .quo .f32 (gm none L n i k) (gm none L n k k)) * vm n L k j) 2 := (p3.mul o).mono (by grind)
          exact (fv_submul (e := 1 / 400000) (h.fv i j hi hj) p1 (h.fv k j hk hj) hP ((hw.sub hP).mono (show (10 : Rat) + 2 ≤ 12 by decide +kernel)) (by decide +kernel) (by decide +kernel) (by decide +kernel)).1
    · rw [if_neg e]; exact h.fv i j hi hj
  · by_cases e : t = k
    · subst e
      obtain ⟨_, p2, _⟩ := f0 i hti hi
      rw [ss i t hi hk, g2 i hti hi, g1 t t hk hk (by omega)]
      have := p2.add (h.act i t (by omega) (Nat.le_refl _) hi hk)
      rw [show vl (fop .quo .f32 (gm none L n i t) (gm none L n t t)) * vm n L t t - vm n L i t + (vm n L i t - slu a (vm n L) t i t) = vl (fop .quo .f32 (gm none L n i t) (gm none L n t t)) * vm n L t t - slu a (vm n L) t i t from by grind] at this
      exact this.mono (by grind)
    · rw [g1 i t hi (by omega) (by omega), g1 t t (by omega) (by omega) (by omega), slu_congr (w := vm n L) (fun s hs => g1 i s hi (by omega) (by omega)) (fun s hs => g1 s t (by omega) (by omega) (by omega))]
      exact h.d.lo i t (by omega) hti hi
  · rw [g1 i j (by omega) hj (by omega), slu_congr (w := vm n L) (fun s hs => g1 i s (by omega) (by omega) (by omega)) (fun s hs => g1 s j (by omega) hj (by omega))]
    by_cases e : i = k
    · subst e
      exact (h.act i j (Nat.le_refl _) hij hk hj).mono (by grind)
    · exact h.d.up i j (by omega) hij hj
  · have hki : k < i := by omega
    obtain ⟨p1, p2, p3⟩ := f0 i hki hin
    have o := off k j (Nat.le_refl _) (by omega) hk hjn (by omega)
    have hw : Ab (vm n L i j) 10 := by
      by_cases e3 : i = j
      · subst e3
        have d := (B i i (by omega) (by omega) hin hin).dia rfl
        have a := h.act i i (by omega) (by omega) hin hin
        exact ⟨by have := a.1; grind, by have := a.2; grind⟩
      · exact (off i j (by omega) (by omega) hin hjn e3).mono (by grind)
    have hP : Ab (vl (fop .quo .f32 (gm none L n i k) (gm none L n k k)) * vm n L k j) 2 := (p3.mul o).mono (by grind)
    have s2 := (fv_submul (e := 1 / 400000) (h.fv i j hin hjn) p1 (h.fv k j hk hjn) hP ((hw.sub hP).mono (show (10 : Rat) + 2 ≤ 12 by decide +kernel)) (by decide +kernel) (by decide +kernel) (by decide +kernel)).2
    have e1 : vm n M i j = vl (fop .sub .f32 (gm none L n i j) (fop .mul .f32 (fop .quo .f32 (gm none L n i k) (gm none L n k k)) (gm none L n k j))) := by
      unfold vm; rw [g i j hin hjn, if_pos hki, if_neg (by omega), if_neg (by omega)]
    rw [slu_succ, ss i j hin hjn, e1, g2 i hki hin, g1 k j hk hjn (by omega)]
    have := s2.add (h.act i j (by omega) (by omega) hin hjn)
    generalize vl (fop .sub .f32 (gm none L n i j) (fop .mul .f32 (fop .quo .f32 (gm none L n i k) (gm none L n k k)) (gm none L n k j))) = z at *
    rw [show z - (vl (gm none L n i j) - vl (fop .quo .f32 (gm none L n i k) (gm none L n k k)) * vl (gm none L n k j)) + (vm n L i j - slu a (vm n L) k i j) = z - (slu a (vm n L) k i j - vl (fop .quo .f32 (gm none L n i k) (gm none L n k k)) * vm n L k j) from by unfold vm; grind] at this
    exact this.mono (by push_cast; grind)
theorem K0w_run {n : Nat} {a : Nat → Nat → Rat} {L M : List F} (T : LTab n a) (n0 : 0 < n) (m : Mat n n L) (fv : ∀ i j, i < n → j < n → Fv (gm none L n i j)) (ha : ∀ i j, i < n → j < n → vm n L i j = a i j) (e : runE (frStep n) 0 n (L, upTo n) = .inl (M, upTo n)) : K0w (n : Int) (n : Int) L = some ((n : Int), (n : Int), true, M, upTo n) := by
  have fL : ∀ x ∈ L, Fv x := fun x hx => by
    obtain ⟨i, j, hi, hj, rfl⟩ := mem_gm m hx
    exact fv i j hi hj
  have g : FOks L := fun y hy => (fL y hy).fok
  have al : L.all fin32 = true := List.all_eq_true.2 fun y hy => (fL y hy).fin
  have n5 := T.n5
  obtain ⟨s, es, hs1, hs2⟩ := runE_all (f := frStep n) (fun k s => LuInv n a k s.1 ∧ s.2 = upTo n) n 0 (L, upTo n) ⟨⟨m, fv, ⟨fun i t h => by omega, fun i j h => by omega⟩, fun i j _ _ hi hj => by
    rw [slu_zero, ha i j hi hj]
    exact ⟨by simp; grind, by simp; grind⟩⟩, rfl⟩ (fun k s _ hk ⟨h1, h2⟩ => by
    have hk : k < n := by omega
    obtain ⟨s1, s2, s3⟩ := lu_step T hk h1
    have al : (elimP n n k s.1).all fin32 = true := List.all_eq_true.2 fun x hx => by
      obtain ⟨i, j, hi, hj, rfl⟩ := mem_gm s3.m hx
      exact (s3.fv i j hi hj).fin
    refine ⟨(elimP n n k s.1, upTo n), ?_, s3, rfl⟩
    unfold frStep
    rw [s1]
    unfold frPick
    rw [s2, cond_false, swapR_self h1.m hk, al, cond_true, h2, tradeP_self (by rw [upTo_len]; exact hk)])
  have hi : ∀ k s, 0 ≤ k → k < n → (LuInv n a k s.1 ∧ s.2 = upTo n) → (∃ s', frStep n k s = .inl s' ∧ K0w_s9 (n : Int) (n : Int) (n : Int) L (upTo n) (s.1, s.2, (k : Int)) = some (.next (s'.1, s'.2, ((k + 1 : Nat) : Int))) ∧ (LuInv n a (k + 1) s'.1 ∧ s'.2 = upTo n)) ∨ (∃ r, frStep n k s = .inr r ∧ K0w_s9 (n : Int) (n : Int) (n : Int) L (upTo n) (s.1, s.2, (k : Int)) = some (.ret r)) := by
    intro k s _ hk ⟨h1, h2⟩
    obtain ⟨s1, s2, s3⟩ := lu_step T hk h1
    have al3 : (elimP n n k s.1).all fin32 = true := List.all_eq_true.2 fun x hx => by
      obtain ⟨i, j, hi, hj, rfl⟩ := mem_gm s3.m hx
      exact (s3.fv i j hi hj).fin
    have g3 : FOks (elimP n n k s.1) := fun x hx => by
      obtain ⟨i, j, hi, hj, rfl⟩ := mem_gm s3.m hx
      exact (s3.fv i j hi hj).fok
    have g1 : FOks s.1 := fun x hx => by
      obtain ⟨i, j, hi, hj, rfl⟩ := mem_gm h1.m hx
      exact (h1.fv i j hi hj).fok
    refine .inl ⟨(elimP n n k s.1, upTo n), ?_, ?_, s3, rfl⟩
    · unfold frStep
      rw [s1]
      unfold frPick
      rw [s2, cond_false, swapR_self h1.m hk, al3, cond_true, h2, tradeP_self (by rw [upTo_len]; exact hk)]
    · show K0w_b9 (n : Int) (n : Int) (n : Int) L (upTo n) s.1 s.2 (k : Int) = _
      unfold K0w_b9
      rw [dlt hk, bsel_true, K0w_find g1 h1.m hk, s1, obind_eq, osum_inl]
      unfold K0w_k8
      have l1 : decide (s.1.length = L.length) = true := by simp [h1.m.len, m.len]
      have l3 : decide ((upTo n).length = (upTo n).length) = true := by simp
      have l4 : decide ((elimP n n k s.1).length = L.length) = true := by simp [s3.m.len, m.len]
      have ho : k < (upTo n).length := by rw [upTo_len]; exact hk
      rw [K0p_eq _ h1.m hk hk, obind_eq, s2, bsel_false, K0s_eq h1.m hk hk, swapR_self h1.m hk, obind_eq, l1, need_true, h2, K0t_eq ho ho, tradeP_self ho, obind_eq, l3, need_true, K0v_eq h1.m hk hk, obind_eq, l4, need_true,
        K0k_eq _ _ g3 s3.m.le, mat_valid s3.m (by omega) (by omega), al3, obind_eq, bsel_true, wsucc (by omega)]
      rfl
  obtain ⟨e3, _⟩ := loop_endE (step := K0w_s9 (n : Int) (n : Int) (n : Int) L (upTo n)) (fun (k : Nat) (s : List F × List Int) => (s.1, s.2, (k : Int))) (frStep n) (fun s => s) (fun k s => LuInv n a k s.1 ∧ s.2 = upTo n) (lo := 0) (n := n) (Nat.zero_le _) (s0 := (L, upTo n)) ⟨⟨m, fv, ⟨fun i t h => by omega, fun i j h => by omega⟩, fun i j _ _ hi hj => by
    rw [slu_zero, ha i j hi hj]
    exact ⟨by simp; grind, by simp; grind⟩⟩, rfl⟩ hi
    (fun s _ => by
      show K0w_b9 _ _ _ _ _ _ _ _ = _
      unfold K0w_b9
      rw [dnlt, bsel_false])
  replace e3 : loopM (K0w_s9 (n : Int) (n : Int) (n : Int) L (upTo n)) (L, upTo n, 0) = some (endE (fun s => s) (runE (frStep n) 0 n (L, upTo n))) := e3
  unfold K0w
  rw [K0l_eq _ _ g m.le, mat_valid m n0 n0, al, decide_eq_true rfl, Bool.and_self, obind_eq, bsel_true, K0n_eq _ _ m.le, obind3_eq, K0o_eq m.A1, obind_eq, e3, e, obind_eq]
  rfl
structure LowG (n : Nat) (C β : Rat) (B : Nat → Rat) (e BB S : Rat) : Prop where
  n12 : n ≤ 12
  b0 : ∀ i, i < n → 0 ≤ B i ∧ B i ≤ 100
  bb : ∀ i, i < n → B i ≤ BB
  bs : ∀ i, i < n → C + β * rs B i ≤ S
  β0 : 0 ≤ β
  p1 : β * BB ≤ 1000
  s1 : S ≤ 10000
  he : e32 (β * BB) + e32 (S + 16 * e + e32 (β * BB)) ≤ e
  he1 : 16 * e ≤ 1 / 1000
  he0 : 0 ≤ e
theorem low_G {f : Nat → Nat → F} {post : Nat → F → F} {dv : Nat → Rat} {c : List F} {n : Nat} {C β e BB S η : Rat} {B : Nat → Rat} (LB : LowG n C β B e BB S)
    (fc : ∀ i, i < n → Fv (c.getD i none) ∧ Ab (vl (c.getD i none)) C) (ff : ∀ i k, k < i → i < n → Fv (f i k) ∧ Ab (vl (f i k)) β)
    (hp : ∀ i, i < n → ∀ z, Fv z → Ab (vl z) (C + β * rs B i + 1 / 1000) → Fv (post i z) ∧ Ab (vl (post i z)) (B i) ∧ Ab (dv i * vl (post i z) - vl z) η)
    {h : Nat → F → List F → F} (hh : ∀ i y L, h i y L = post i (lessG (f i) L 0 i y)) :
    ∀ i, i < n → Fv ((lowL h c n).getD i none) ∧ Ab (vl ((lowL h c n).getD i none)) (B i) ∧ Ab (dv i * vl ((lowL h c n).getD i none) + rs (fun t => vl (f i t) * vl ((lowL h c n).getD t none)) i - vl (c.getD i none)) (12 * e + η) := by
  intro i
  have n12 := LB.n12
  have he0 := LB.he0
  induction i using Nat.strongRecOn with
  | ind i ih =>
    intro hi
    obtain ⟨c1, c2⟩ := fc i hi
    have β0 := LB.β0
    have hP : ∀ j, j < i → Fv (f i (0 + j)) ∧ Fv ((lowL h c i).getD (0 + j) none) ∧ Ab (vl (f i (0 + j)) * vl ((lowL h c i).getD (0 + j) none)) (β * BB) := by
      intro j hj
      rw [Nat.zero_add, lowL_pre (n := n) hj (by omega)]
      obtain ⟨p1, p2, _⟩ := ih j hj (by omega)
      obtain ⟨f1, f2⟩ := ff i j hj hi
      exact ⟨f1, p1, (f2.mul p2).mono (Rat.mul_le_mul_of_nonneg_left (LB.bb j (by omega)) β0)⟩
    have hS : ∀ j, j ≤ i → Ab (vl (c.getD i none) - rs (fun t => vl (f i (0 + t)) * vl ((lowL h c i).getD (0 + t) none)) j) (C + β * rs B i) := by
      intro j hj
      have h1 : Ab (rs (fun t => vl (f i (0 + t)) * vl ((lowL h c i).getD (0 + t) none)) j) (rs (fun t => β * B t) j) := rs_mono fun t ht => by
        rw [Nat.zero_add, lowL_pre (n := n) (show t < i by omega) (by omega)]
        obtain ⟨p1, p2, _⟩ := ih t (by omega) (by omega)
        obtain ⟨f1, f2⟩ := ff i t (by omega) hi
        exact f2.mul p2
      rw [rs_mul] at h1
      have h2 : β * rs B j ≤ β * rs B i := Rat.mul_le_mul_of_nonneg_left (rs_ble LB.b0 hj (by omega)) β0
      exact (c2.sub h1).mono (by grind)
    have hS1 := LB.bs i hi
    have s1 := LB.s1
    have p1 := LB.p1
    have hh1 := LB.he1
    obtain ⟨r1, r2⟩ := less_near (f := f i) (g := fun k => (lowL h c i).getD k none) (y := c.getD i none) (P := β * BB) (S := C + β * rs B i) (e := e) (lo := 0) (m := i) c1 (by omega) hP hS (by grind) (by grind)
      (Rat.le_trans (by have := e32_mono (show C + β * rs B i + 16 * e + e32 (β * BB) ≤ S + 16 * e + e32 (β * BB) by grind); grind) LB.he) (by grind) he0 i (Nat.le_refl _)
    have e1 : (lowL h c n).getD i none = post i (run (fun k s => fop .sub .f32 s (fop .mul .f32 (f i k) ((lowL h c i).getD k none))) 0 i (c.getD i none)) := by rw [lowL_get2 hi, hh]; rfl
    have e2 : rs (fun t => vl (f i (0 + t)) * vl ((lowL h c i).getD (0 + t) none)) i = rs (fun t => vl (f i t) * vl ((lowL h c n).getD t none)) i := rs_congr fun t ht => by rw [Nat.zero_add, lowL_pre (n := n) ht (by omega)]
    have hSm := hS i (Nat.le_refl _)
    rw [e2] at r2 hSm
    rw [e1]
    generalize run (fun k s => fop .sub .f32 s (fop .mul .f32 (f i k) ((lowL h c i).getD k none))) 0 i (c.getD i none) = z at *
    generalize rs (fun t => vl (f i t) * vl ((lowL h c n).getD t none)) i = T at *
    have h1 : (i : Rat) ≤ 12 := by exact_mod_cast (show i ≤ 12 by omega)
    have h2 : (i : Rat) * e ≤ 12 * e := Rat.mul_le_mul_of_nonneg_right h1 he0
    have hz : Ab (vl z) (C + β * rs B i + 1 / 1000) := by
      have := r2.add hSm
      rw [show vl z - (vl (c.getD i none) - T) + (vl (c.getD i none) - T) = vl z from by grind] at this
      exact this.mono (by grind)
    obtain ⟨q1, q2, q3⟩ := hp i hi z r1 hz
    refine ⟨q1, q2, ?_⟩
    have := q3.add r2
    rw [show dv i * vl (post i z) - vl z + (vl z - (vl (c.getD i none) - T)) = dv i * vl (post i z) + T - vl (c.getD i none) from by grind] at this
    exact this.mono (by grind)
theorem up_G {f : Nat → Nat → F} {post : Nat → F → F} {dv : Nat → Rat} {c : List F} {n : Nat} {C β e BB S η : Rat} {B : Nat → Rat} (LB : LowG n C β B e BB S) (hc : c.length = n)
    (fc : ∀ i, i < n → Fv (c.getD i none) ∧ Ab (vl (c.getD i none)) C) (ff : ∀ i k, i < k → k < n → Fv (f i k) ∧ Ab (vl (f i k)) β)
    (hp : ∀ i j, i + j + 1 = n → ∀ z, Fv z → Ab (vl z) (C + β * rs B j + 1 / 1000) → Fv (post i z) ∧ Ab (vl (post i z)) (B j) ∧ Ab (dv i * vl (post i z) - vl z) η)
    {h : Nat → F → List F → F} (hh : ∀ i y L, h i y L = post i (lessG (f i) L (i + 1) (n - (i + 1)) y)) :
    ∀ j i, i + j + 1 = n → Fv ((upL h n c).getD i none) ∧ Ab (vl ((upL h n c).getD i none)) (B j) ∧ Ab (dv i * vl ((upL h n c).getD i none) + rs (fun t => vl (f i (i + 1 + t)) * vl ((upL h n c).getD (i + 1 + t) none)) (n - (i + 1)) - vl (c.getD i none)) (12 * e + η) := by
  intro j
  have n12 := LB.n12
  have he0 := LB.he0
  induction j using Nat.strongRecOn with
  | ind j ih =>
    intro i hij
    have hi : i < n := by omega
    have hj : j < n := by omega
    have hm : n - (i + 1) = j := by omega
    obtain ⟨L', u1, u2, u3⟩ := upL_get (h := h) hc i hi
    obtain ⟨c1, c2⟩ := fc i hi
    have β0 := LB.β0
    have lt : ∀ t, t < j → L'.getD (i + 1 + t) none = (upL h n c).getD (i + 1 + t) none := fun t ht => u3 _ (by omega) (by omega)
    have one : ∀ t, t < j → Fv (f i (i + 1 + t)) ∧ Fv (L'.getD (i + 1 + t) none) ∧ Ab (vl (f i (i + 1 + t)) * vl (L'.getD (i + 1 + t) none)) (β * B (j - 1 - t)) := by
      intro t ht
      rw [lt t ht]
      obtain ⟨p1, p2, _⟩ := ih (j - 1 - t) (by omega) (i + 1 + t) (by omega)
      obtain ⟨f1, f2⟩ := ff i (i + 1 + t) (by omega) (by omega)
      exact ⟨f1, p1, f2.mul p2⟩
    have hP : ∀ t, t < j → Fv (f i (i + 1 + t)) ∧ Fv (L'.getD (i + 1 + t) none) ∧ Ab (vl (f i (i + 1 + t)) * vl (L'.getD (i + 1 + t) none)) (β * BB) := fun t ht => by
      obtain ⟨p1, p2, p3⟩ := one t ht
      exact ⟨p1, p2, p3.mono (Rat.mul_le_mul_of_nonneg_left (LB.bb _ (by omega)) β0)⟩
    have hS : ∀ q, q ≤ j → Ab (vl (c.getD i none) - rs (fun t => vl (f i (i + 1 + t)) * vl (L'.getD (i + 1 + t) none)) q) (C + β * rs B j) := by
      intro q hq
      have h1 : Ab (rs (fun t => vl (f i (i + 1 + t)) * vl (L'.getD (i + 1 + t) none)) q) (rs (fun t => β * B (j - 1 - t)) q) := rs_mono fun t ht => (one t (by omega)).2.2
      have h2 : rs (fun t => β * B (j - 1 - t)) q ≤ rs (fun t => β * B (j - 1 - t)) j := rs_part (m := j) (fun t ht => Rat.mul_nonneg β0 (LB.b0 _ (by omega)).1) hq (Nat.le_refl _)
      rw [rs_mul β (fun t => B (j - 1 - t)) j, rs_rev] at h2
      exact (c2.sub h1).mono (by grind)
    have hS1 := LB.bs j hj
    have s1 := LB.s1
    have p1 := LB.p1
    have hh1 := LB.he1
    obtain ⟨r1, r2⟩ := less_near (f := f i) (g := fun k => L'.getD k none) (y := c.getD i none) (P := β * BB) (S := C + β * rs B j) (e := e) (lo := i + 1) (m := j) c1 (by omega) hP hS (by grind) (by grind)
      (Rat.le_trans (by have := e32_mono (show C + β * rs B j + 16 * e + e32 (β * BB) ≤ S + 16 * e + e32 (β * BB) by grind); grind) LB.he) (by grind) he0 j (Nat.le_refl _)
    have e1 : (upL h n c).getD i none = post i (run (fun k s => fop .sub .f32 s (fop .mul .f32 (f i k) (L'.getD k none))) (i + 1) j (c.getD i none)) := by rw [u1, hh, hm]; rfl
    have e2 : rs (fun t => vl (f i (i + 1 + t)) * vl (L'.getD (i + 1 + t) none)) j = rs (fun t => vl (f i (i + 1 + t)) * vl ((upL h n c).getD (i + 1 + t) none)) j := rs_congr fun t ht => by rw [lt t ht]
    have hSm := hS j (Nat.le_refl _)
    rw [e2] at r2 hSm
    rw [hm, e1]
    generalize run (fun k s => fop .sub .f32 s (fop .mul .f32 (f i k) (L'.getD k none))) (i + 1) j (c.getD i none) = z at *
    generalize rs (fun t => vl (f i (i + 1 + t)) * vl ((upL h n c).getD (i + 1 + t) none)) j = T at *
    have h1 : (j : Rat) ≤ 12 := by exact_mod_cast (show j ≤ 12 by omega)
    have h2 : (j : Rat) * e ≤ 12 * e := Rat.mul_le_mul_of_nonneg_right h1 he0
    have hz : Ab (vl z) (C + β * rs B j + 1 / 1000) := by
      have := r2.add hSm
      rw [show vl z - (vl (c.getD i none) - T) + (vl (c.getD i none) - T) = vl z from by grind] at this
      exact this.mono (by grind)
    obtain ⟨q1, q2, q3⟩ := hp i j hij z r1 hz
    refine ⟨q1, q2, ?_⟩
    have := q3.add r2
    rw [show dv i * vl (post i z) - vl z + (vl z - (vl (c.getD i none) - T)) = dv i * vl (post i z) + T - vl (c.getD i none) from by grind] at this
    exact this.mono (by grind)
theorem post_quo {d z : F} {S δ Δ bq : Rat} (hd : Fv d) (d1 : δ ≤ vl d) (d2 : vl d ≤ Δ) (δ0 : 1 / 2 ≤ δ) (hz : Fv z) (hS : Ab (vl z) S) (hb : S ≤ δ * (bq - 1 / 1000)) (hb1 : 1 / 1000 ≤ bq) (hb2 : bq ≤ 1000) : Fv (fop .quo .f32 z d) ∧ Ab (vl (fop .quo .f32 z d)) bq ∧ Ab (vl d * vl (fop .quo .f32 z d) - vl z) (Δ * e32 bq) := by
  have dpos : 0 < vl d := by grind
  have dne : vl d ≠ 0 := by grind
  have hdb : δ * (bq - 1 / 1000) ≤ vl d * (bq - 1 / 1000) := Rat.mul_le_mul_of_nonneg_right d1 (by grind)
  have e1 : vl z / vl d * vl d = vl z := by grind
  have hq : Ab (vl z / vl d) (bq - 1 / 1000) := by
    obtain ⟨a1, a2⟩ := hS
    exact ⟨Rat.le_of_mul_le_mul_right (c := vl d) (by rw [e1]; grind) dpos, Rat.le_of_mul_le_mul_right (c := vl d) (by rw [e1]; grind) dpos⟩
  obtain ⟨q1, q2⟩ := fv_quo hz hd dne (hq.mono (f := bq) (by grind)) (by grind)
  have e3 : e32 bq ≤ 1 / 1000 := by unfold e32; grind
  refine ⟨q1, ?_, ?_⟩
  · have := q2.add hq
    rw [show vl (fop .quo .f32 z d) - vl z / vl d + vl z / vl d = vl (fop .quo .f32 z d) from by grind] at this
    exact this.mono (by grind)
  · have hΔ : Ab (vl d) Δ := ⟨by grind, d2⟩
    have := hΔ.mul q2
    rw [show vl d * (vl (fop .quo .f32 z d) - vl z / vl d) = vl d * vl (fop .quo .f32 z d) - vl z from by grind] at this
    exact this
def fy : Nat → Rat | 0 => 401 / 100 | 1 => 538 / 100 | 2 => 721 / 100 | 3 => 966 / 100 | _ => 1295 / 100
def fx : Nat → Rat | 0 => 280 / 100 | 1 => 386 / 100 | 2 => 533 / 100 | 3 => 735 / 100 | _ => 1014 / 100
theorem fy_ok (i : Nat) (h : i < 5) : 4 + 34 / 100 * rs fy i + 1 / 1000 ≤ fy i ∧ 0 ≤ fy i ∧ fy i ≤ 1295 / 100 ∧ 4 + 34 / 100 * rs fy i ≤ 13 := by
  match i, h with
  | 0, _ => decide +kernel
  | 1, _ => decide +kernel
  | 2, _ => decide +kernel
  | 3, _ => decide +kernel
  | 4, _ => decide +kernel
theorem fx_ok (i : Nat) (h : i < 5) : 1295 / 100 + 176 / 100 * rs fx i + 1 / 1000 ≤ 464 / 100 * (fx i - 1 / 1000) ∧ 1 / 1000 ≤ fx i ∧ fx i ≤ 1014 / 100 ∧ 1295 / 100 + 176 / 100 * rs fx i ≤ 48 := by
  match i, h with
  | 0, _ => decide +kernel
  | 1, _ => decide +kernel
  | 2, _ => decide +kernel
  | 3, _ => decide +kernel
  | 4, _ => decide +kernel
structure TrF (n : Nat) (a : Nat → Nat → Rat) (M : List F) : Prop where
  m : Mat n n M
  n5 : n ≤ 5
  fe : ∀ i j, i < n → j < n → Fv (gm none M n i j)
  dia : ∀ i, i < n → 464 / 100 ≤ vm n M i i ∧ vm n M i i ≤ 95 / 10
  up : ∀ i j, i < j → j < n → Ab (vm n M i j) (176 / 100)
  lo : ∀ i j, j < i → i < n → Ab (vm n M i j) (34 / 100)
  prodU : ∀ i j, i ≤ j → j < n → Ab (rs (fun t => vm n M i t * vm n M t j) i + vm n M i j - a i j) cE
  prodL : ∀ i j, j < i → i < n → Ab (rs (fun t => vm n M i t * vm n M t j) (j + 1) - a i j) cE
theorem tr_facts {n : Nat} {a : Nat → Nat → Rat} {M : List F} (T : LTab n a) (h : LuInv n a n M) : TrF n a M := by
  have n5 := T.n5
  have c0 : cE = 3 / 100000 := rfl
  have SBs := slu_bound T (Nat.le_refl n) h.d
  have dia : ∀ i, i < n → 464 / 100 ≤ vm n M i i ∧ vm n M i i ≤ 95 / 10 := fun i hi => by
    have d := ((SBs i (by omega)).1 i i (Nat.le_refl _) (Nat.le_refl _) hi hi).dia rfl
    have u := h.d.up i i hi (Nat.le_refl _) hi
    obtain ⟨_, _, _, _, _, _, q7, _, _, q10⟩ := l_num i (by omega)
    exact ⟨by have := u.1; grind, by have := u.2; grind⟩
  refine ⟨h.m, n5, h.fv, dia, fun i j hij hj => ?_, fun i j hij hi => ?_, fun i j hij hj => ?_, fun i j hij hi => ?_⟩
  · have o := ((SBs i (by omega)).1 i j (Nat.le_refl _) (by omega) (by omega) hj).off (by omega)
    have := (h.d.up i j (by omega) (by omega) hj).add o
    rw [show vm n M i j - slu a (vm n M) i i j + slu a (vm n M) i i j = vm n M i j from by grind] at this
    exact this.mono (by have := tO_high i (by omega); grind)
  · have o := ((SBs j (by omega)).1 i j (by omega) (Nat.le_refl _) hi (by omega)).off (by omega)
    have := (h.d.lo i j (by omega) hij hi).add o
    rw [show vm n M i j * vm n M j j - slu a (vm n M) j i j + slu a (vm n M) j i j = vm n M i j * vm n M j j from by grind] at this
    have d := h.d.up j j (by omega) (Nat.le_refl _) (by omega)
    have dd := ((SBs j (by omega)).1 j j (Nat.le_refl _) (Nat.le_refl _) (by omega) (by omega)).dia rfl
    have key : tO j + cE + cE ≤ 34 / 100 * (tD j - cE) := by
      have : ∀ j, j < 4 → tO j + cE + cE ≤ 34 / 100 * (tD j - cE) := fun j hj => by
        match j, hj with
        | 0, _ => decide +kernel
        | 1, _ => decide +kernel
        | 2, _ => decide +kernel
        | 3, _ => decide +kernel
      exact this j (by omega)
    have pos := (dia j (by omega)).1
    have dl : tD j - cE ≤ vm n M j j := by have := d.1; grind
    obtain ⟨a1, a2⟩ := this
    exact ⟨Rat.le_of_mul_le_mul_right (c := vm n M j j) (by grind) (by grind), Rat.le_of_mul_le_mul_right (c := vm n M j j) (by grind) (by grind)⟩
  · have := h.d.up i j (by omega) hij hj
    unfold slu at this
    generalize rs (fun t => vm n M i t * vm n M t j) i = S at *
    rw [show S + vm n M i j - a i j = vm n M i j - (a i j - S) from by grind]
    exact this
  · have := h.d.lo i j (by omega) hij hi
    unfold slu at this
    show Ab (rs (fun t => vm n M i t * vm n M t j) j + vm n M i j * vm n M j j - a i j) cE
    generalize rs (fun t => vm n M i t * vm n M t j) j = S at *
    rw [show S + vm n M i j * vm n M j j - a i j = vm n M i j * vm n M j j - (a i j - S) from by grind]
    exact this
theorem ordB_upTo {n : Nat} (h1 : 1 ≤ n) (h5 : n ≤ 5) : ordB (upTo n) = true := by
  match n, h1, h5 with
  | 1, _, _ => decide +kernel
  | 2, _, _ => decide +kernel
  | 3, _, _ => decide +kernel
  | 4, _, _ => decide +kernel
  | 5, _, _ => decide +kernel
theorem upTo_at {n i : Nat} (h : i < n) : (upTo n).getD i 0 = (i : Int) := by
  unfold upTo
  rw [List.getD_eq_getElem?_getD, List.getElem?_map, List.getElem?_range h]; rfl
theorem tr_oks {n : Nat} {a : Nat → Nat → Rat} {M : List F} (H : TrF n a M) : FOks M := fun y hy => by
  obtain ⟨i, j, hi, hj, rfl⟩ := mem_gm H.m hy
  exact (H.fe i j hi hj).fok
theorem tr_fin {n : Nat} {a : Nat → Nat → Rat} {M : List F} (H : TrF n a M) : M.all fin32 = true := List.all_eq_true.2 fun y hy => by
  obtain ⟨i, j, hi, hj, rfl⟩ := mem_gm H.m hy
  exact (H.fe i j hi hj).fin
theorem tr_mid {n : Nat} {a : Nat → Nat → Rat} {M : List F} (H : TrF n a M) : midB n M = true := by
  unfold midB
  refine List.all_eq_true.2 fun x hx => ?_
  obtain ⟨i, hi, rfl⟩ := List.mem_map.1 hx
  have hi := List.mem_range.1 hi
  have : 464 / 100 ≤ vl (gm none M n i i) := (H.dia i hi).1
  rw [fv_eq fv_zero.1 (H.fe i i hi hi), fv_zero.2, decide_eq_false (by grind)]; rfl
theorem tr_fac {n : Nat} {a : Nat → Nat → Rat} {M : List F} (H : TrF n a M) (n0 : 0 < n) : facB (n : Int) (n : Int) M (upTo n) = true := by
  unfold facB
  rw [mat_valid H.m n0 n0, tr_fin H, ordB_upTo n0 H.n5, upTo_len, Int.toNat_natCast, tr_mid H]
  simp
theorem ordC_upTo {n : Nat} {b : List F} (hb : b.length = n) : ordC (upTo n) b n = b := by
  apply List.ext_getElem?
  intro i
  by_cases hi : i < n
  · rw [getD_of_lt none (by rw [ordC_len]; exact hi), ordC_at hi, upTo_at hi, getD_of_lt none (by omega)]; rfl
  · rw [List.getElem?_eq_none (by rw [ordC_len]; omega), List.getElem?_eq_none (by omega)]
noncomputable def pL (n : Nat) (M : List F) (i t : Nat) : Rat := if t < i then vm n M i t else if t = i then 1 else 0
noncomputable def qU (n : Nat) (M : List F) (t k : Nat) : Rat := if t ≤ k then vm n M t k else 0
theorem tr_prod {n : Nat} {a : Nat → Nat → Rat} {M : List F} (H : TrF n a M) {i k : Nat} (hi : i < n) (hk : k < n) : Ab (rs (fun t => pL n M i t * qU n M t k) n - a i k) cE := by
  rcases Nat.lt_or_ge k i with hlt | hge
  · rw [rs_lo (i := k + 1) (by omega) fun t h1 h2 => by unfold qU; rw [if_neg (show ¬ t ≤ k by omega)]; grind]
    rw [rs_congr (g := fun t => vm n M i t * vm n M t k) fun t ht => by unfold pL qU; rw [if_pos (show t < i by omega), if_pos (show t ≤ k by omega)]]
    exact H.prodL i k hlt hi
  · rw [rs_lo (i := i + 1) (by omega) fun t h1 h2 => by unfold pL; rw [if_neg (show ¬ t < i by omega), if_neg (show ¬ t = i by omega)]; grind]
    show Ab (rs (fun t => pL n M i t * qU n M t k) i + pL n M i i * qU n M i k - a i k) cE
    rw [rs_congr (g := fun t => vm n M i t * vm n M t k) fun t ht => by unfold pL qU; rw [if_pos ht, if_pos (show t ≤ k by omega)]]
    have e1 : pL n M i i = 1 := by unfold pL; rw [if_neg (by omega), if_pos rfl]
    have e2 : qU n M i k = vm n M i k := by unfold qU; rw [if_pos hge]
    rw [e1, e2, show rs (fun t => vm n M i t * vm n M t k) i + 1 * vm n M i k - a i k = rs (fun t => vm n M i t * vm n M t k) i + vm n M i k - a i k from by grind]
    exact H.prodU i k hge hk
theorem row_bound {n i : Nat} {p g : Nat → Rat} {d β e : Rat} (hi : i < n) (h5 : n ≤ 5) (hd : Ab (p i) d) (ho : ∀ t, t < n → t ≠ i → Ab (p t) β) (hg : ∀ t, t < n → Ab (g t) e) (hβ : 0 ≤ β) : Ab (rs (fun t => p t * g t) n) (d * e + 4 * (β * e)) := by
  have e0 := (hg i hi).nonneg
  have hβe := Rat.mul_nonneg hβ e0
  rw [rs_pick (fun t => p t * g t) i n, if_pos hi]
  have hole : Ab (rs (fun t => if t = i then 0 else p t * g t) n) (((n - 1 : Nat) : Rat) * (β * e)) := by
    have : rs (fun t => if t = i then 0 else p t * g t) n = rs (fun t => if t = i then 0 else (if t < n then p t * g t else 0)) n := rs_congr fun t ht => by rw [if_pos ht]
    rw [this]
    refine rs_hole (fun t ht => ?_) hβe n hi
    by_cases htn : t < n
    · rw [if_pos htn]; exact (ho t htn ht).mul (hg t htn)
    · rw [if_neg htn]; exact ⟨by grind, by grind⟩
  have h4 : ((n - 1 : Nat) : Rat) ≤ 4 := by exact_mod_cast (show n - 1 ≤ 4 by omega)
  have := Rat.mul_le_mul_of_nonneg_right h4 hβe
  exact ((hd.mul (hg i hi)).add hole).mono (by grind)
theorem two_solves {n : Nat} {a p q : Nat → Nat → Rat} {X Y : List F} {b : Nat → Rat} {d β e1 e2 B : Rat} (h5 : n ≤ 5) (n0 : 0 < n) (T : LTab n a) (hb : ∀ i, i < n → Ab (b i) 4)
    (hE : ∀ i k, i < n → k < n → Ab (rs (fun t => p i t * q t k) n - a i k) cE) (hx : ∀ i, i < n → Ab (vl (X.getD i none)) B)
    (hF : ∀ i, i < n → Ab (rs (fun t => p i t * vl (Y.getD t none)) n - b i) e1) (hB : ∀ t, t < n → Ab (rs (fun k => q t k * vl (X.getD k none)) n - vl (Y.getD t none)) e2)
    (hd : ∀ i, i < n → Ab (p i i) d) (ho : ∀ i t, i < n → t < n → t ≠ i → Ab (p i t) β) (hβ : 0 ≤ β) (hB1 : B ≤ 11) (hsum : d * e2 + 4 * (β * e2) + e1 ≤ 45 / 100000) :
    ∀ i, i < n → Ab (vl (X.getD i none)) (201 / 100) ∧ Ab (rs (fun k => a i k * vl (X.getD k none)) n - b i) (8 / 10000) := by
  have c0 : cE = 3 / 100000 := rfl
  have hn5 : (n : Rat) ≤ 5 := by exact_mod_cast h5
  have hn0 : (0 : Rat) ≤ (n : Rat) := by exact_mod_cast Nat.zero_le n
  have res : ∀ M, 0 ≤ M → M ≤ 11 → (∀ k, k < n → Ab (vl (X.getD k none)) M) → ∀ i, i < n → Ab (rs (fun k => a i k * vl (X.getD k none)) n - b i) (15 / 100000 * M + 45 / 100000) := fun M m0 m1 hM i hi => by
    have r := row_bound (p := p i) (g := fun t => rs (fun k => q t k * vl (X.getD k none)) n - vl (Y.getD t none)) hi h5 (hd i hi) (ho i · hi) hB hβ
    have := chain_res (p := p) (q := q) (x := fun k => vl (X.getD k none)) (y := fun t => vl (Y.getD t none)) (b := b) (e2 := fun _ => e2) (E := fun k => a i k) (fun k hk => hE i k hi hk) hM (hF i hi) hB r
    refine this.mono ?_
    have h1 : (n : Rat) * (cE * M) ≤ 5 * (cE * M) := Rat.mul_le_mul_of_nonneg_right hn5 (Rat.mul_nonneg (by rw [c0]; decide +kernel) m0)
    rw [c0] at h1 ⊢
    grind
  have h4 : ((n - 1 : Nat) : Rat) ≤ 4 := by exact_mod_cast (show n - 1 ≤ 4 by omega)
  have x2 : ∀ k, k < n → Ab (vl (X.getD k none)) (201 / 100) := by
    refine dom (a := a) (b := b) (δ := 6) (γ := 1) (C := 4) (ρ := 3 / 1000) n0 (fun i hi => (T.dia i hi).1) (fun i k hi hk hne => T.off i k hi hk hne) (by decide +kernel) hb (fun i hi => (res 11 (by decide +kernel) (by decide +kernel) (fun k hk => (hx k hk).mono hB1) i hi).mono (by decide +kernel)) ?_ ?_
    · grind
    · grind
  exact fun i hi => ⟨x2 i hi, (res (201 / 100) (by decide +kernel) (by decide +kernel) x2 i hi).mono (by decide +kernel)⟩
theorem fac_solve {n : Nat} {a : Nat → Nat → Rat} {M b : List F} (H : TrF n a M) (T : LTab n a) (n0 : 0 < n) (hb : b.length = n) (fb : ∀ i, i < n → Fv (b.getD i none) ∧ Ab (vl (b.getD i none)) 4) :
    (∀ x ∈ upL (upH n M) n (lowL (rowH n M) b n), Fv x) ∧ (upL (upH n M) n (lowL (rowH n M) b n)).length = n ∧
    ∀ i, i < n → Ab (vl ((upL (upH n M) n (lowL (rowH n M) b n)).getD i none)) (201 / 100) ∧ Ab (rs (fun k => a i k * vl ((upL (upH n M) n (lowL (rowH n M) b n)).getD k none)) n - vl (b.getD i none)) (8 / 10000) := by
  have n5 := H.n5
  have LB1 : LowG n 4 (34 / 100) fy (23 / 10000000) (1295 / 100) 13 := ⟨by omega, fun i hi => by obtain ⟨_, h2, h3, _⟩ := fy_ok i (by omega); exact ⟨h2, by grind⟩, fun i hi => (fy_ok i (by omega)).2.2.1, fun i hi => (fy_ok i (by omega)).2.2.2, by decide +kernel, by decide +kernel, by decide +kernel, by decide +kernel, by decide +kernel, by decide +kernel⟩
  have lo := low_G (f := fun i k => gm none M n i k) (post := fun _ z => z) (dv := fun _ => 1) (c := b) (η := 0) LB1 fb (fun i k hk hi => ⟨H.fe i k hi (by omega), H.lo i k hk hi⟩) (fun i hi z hz hza => ⟨hz, hza.mono (fy_ok i (by omega)).1, by rw [show 1 * vl z - vl z = 0 from by grind]; exact ⟨by decide +kernel, by decide +kernel⟩⟩) (h := rowH n M) (fun i y L => rfl)
  have ll : (lowL (rowH n M) b n).length = n := lowL_len n
  generalize lowL (rowH n M) b n = Y at *
  have LB2 : LowG n (1295 / 100) (176 / 100) fx (81 / 10000000) (1014 / 100) 48 := ⟨by omega, fun i hi => by obtain ⟨_, h2, h3, _⟩ := fx_ok i (by omega); exact ⟨by grind, by grind⟩, fun i hi => (fx_ok i (by omega)).2.2.1, fun i hi => (fx_ok i (by omega)).2.2.2, by decide +kernel, by decide +kernel, by decide +kernel, by decide +kernel, by decide +kernel, by decide +kernel⟩
  have up := up_G (f := fun i k => gm none M n i k) (post := fun i z => fop .quo .f32 z (gm none M n i i)) (dv := fun i => vm n M i i) (c := Y) (η := 95 / 10 * e32 (1014 / 100)) LB2 ll (fun i hi => ⟨(lo i hi).1, (lo i hi).2.1.mono (fy_ok i (by omega)).2.2.1⟩) (fun i k hk hkn => ⟨H.fe i k (by omega) hkn, H.up i k hk hkn⟩) (fun i j hij z hz hza => by
    obtain ⟨h1, h2, h3, _⟩ := fx_ok j (by omega)
    obtain ⟨p1, p2, p3⟩ := post_quo (δ := 464 / 100) (Δ := 95 / 10) (bq := fx j) (H.fe i i (by omega) (by omega)) (H.dia i (by omega)).1 (H.dia i (by omega)).2 (by decide +kernel) hz hza h1 h2 (by grind)
    exact ⟨p1, p2, p3.mono (Rat.mul_le_mul_of_nonneg_left (e32_mono h3) (by decide +kernel))⟩) (h := upH n M) (fun i y L => rfl)
  have lX : (upL (upH n M) n Y).length = n := by rw [upL_len, ll]
  generalize upL (upH n M) n Y = X at *
  have up' : ∀ i, i < n → Fv (X.getD i none) ∧ Ab (vl (X.getD i none)) 11 ∧ Ab (rs (fun k => qU n M i k * vl (X.getD k none)) n - vl (Y.getD i none)) (110 / 1000000) := fun i hi => by
    obtain ⟨p1, p2, p3⟩ := up (n - 1 - i) i (by omega)
    refine ⟨p1, p2.mono (by have := (fx_ok (n - 1 - i) (by omega)).2.2.1; grind), ?_⟩
    have e : rs (fun k => qU n M i k * vl (X.getD k none)) n = vm n M i i * vl (X.getD i none) + rs (fun t => vm n M i (i + 1 + t) * vl (X.getD (i + 1 + t) none)) (n - (i + 1)) := by
      rw [rs_hi (i := i) (by omega) fun t ht => by unfold qU; rw [if_neg (show ¬ i ≤ t by omega)]; grind, show n - i = n - (i + 1) + 1 from by omega, rs_head, Nat.add_zero]
      congr 1
      · unfold qU; rw [if_pos (Nat.le_refl _)]
      · exact rs_congr fun t ht => by unfold qU; rw [if_pos (show i ≤ i + (t + 1) by omega), show i + (t + 1) = i + 1 + t from by omega]
    rw [e]
    exact p3.mono (by decide +kernel)
  have lo' : ∀ i, i < n → Ab (rs (fun t => pL n M i t * vl (Y.getD t none)) n - vl (b.getD i none)) (28 / 1000000) := fun i hi => by
    obtain ⟨p1, p2, p3⟩ := lo i hi
    have e : rs (fun t => pL n M i t * vl (Y.getD t none)) n = 1 * vl (Y.getD i none) + rs (fun t => vm n M i t * vl (Y.getD t none)) i := by
      rw [rs_lo (i := i + 1) (by omega) fun t h1 h2 => by unfold pL; rw [if_neg (show ¬ t < i by omega), if_neg (show ¬ t = i by omega)]; grind]
      show rs (fun t => pL n M i t * vl (Y.getD t none)) i + pL n M i i * vl (Y.getD i none) = _
      rw [rs_congr (g := fun t => vm n M i t * vl (Y.getD t none)) fun t ht => by unfold pL; rw [if_pos ht], show pL n M i i = 1 from by unfold pL; rw [if_neg (by omega), if_pos rfl]]
      grind
    rw [e]
    exact p3.mono (by decide +kernel)
  have pd : ∀ i t, i < n → t < n → t ≠ i → Ab (pL n M i t) (34 / 100) := fun i t hi ht hne => by
    unfold pL
    by_cases h : t < i
    · rw [if_pos h]; exact H.lo i t h hi
    · rw [if_neg h, if_neg hne]; exact ⟨by decide +kernel, by decide +kernel⟩
  have fin := two_solves (p := pL n M) (q := qU n M) (X := X) (Y := Y) (b := fun i => vl (b.getD i none)) (d := 1) (β := 34 / 100) (e1 := 28 / 1000000) (e2 := 110 / 1000000) (B := 11) n5 n0 T (fun i hi => (fb i hi).2) (fun i k hi hk => tr_prod H hi hk) (fun i hi => (up' i hi).2.1) lo' (fun t ht => (up' t ht).2.2) (fun i hi => by unfold pL; rw [if_neg (by omega), if_pos rfl]; exact ⟨by decide +kernel, by decide +kernel⟩) pd (by decide +kernel) (by decide +kernel) (by decide +kernel)
  refine ⟨fun x hx => ?_, lX, fin⟩
  obtain ⟨i, hi, rfl⟩ := mem_getD hx
  exact (up' i (by omega)).1
theorem K20_fv {n : Nat} {a : Nat → Nat → Rat} {M b : List F} (H : TrF n a M) (n0 : 0 < n) (hb : b.length = n) (fb : ∀ x ∈ b, Fv x) (fX : ∀ x ∈ upL (upH n M) n (lowL (rowH n M) b n), Fv x) : K20 (n : Int) (n : Int) M (upTo n) b = some (true, upL (upH n M) n (lowL (rowH n M) b n)) := by
  have hn := H.m.A1
  have gb : FOks b := fun y hy => (fb y hy).fok
  have ab : b.all fin32 = true := List.all_eq_true.2 fun y hy => (fb y hy).fin
  have hv : vecB b = true := by unfold vecB; rw [hb, decide_eq_true (by omega), decide_eq_true (by omega), ab]; rfl
  have hf : fitB (n : Int) (n : Int) M (upTo n) b = true := by unfold fitB; rw [tr_fac H n0, hv, hb, decide_eq_true rfl]; rfl
  have hr : ∀ i, i < n → 0 ≤ (upTo n).getD i 0 ∧ (upTo n).getD i 0 < (n : Int) := fun i hi => by rw [upTo_at hi]; omega
  have lX : (upL (upH n M) n (lowL (rowH n M) b n)).length = n := by rw [upL_len, lowL_len]
  unfold K20
  rw [K1y_eq _ _ _ (tr_oks H) H.m.le gb (by omega), hf, obind_eq, bsel_true, K1m_eq H.m n0 hb (upTo_len n) hr, ordC_upTo hb, obind_eq]
  unfold K1z
  rw [K0j_eq (fun y hy => (fX y hy).fok) (by omega), show (upL (upH n M) n (lowL (rowH n M) b n)).all fin32 = true from List.all_eq_true.2 fun y hy => (fX y hy).fin, obind_eq, bsel_true, obind_eq, osum_inl, obind2_eq, decide_eq_true rfl, need_true]
theorem K2x_mk {A C : Nat} (hA : A ≤ 12) (hC : C ≤ 12) (a2 a3 : Int) (a4 : List F) (a5 : List Int) {K : Nat → Nat → F} (hK : ∀ i k : Nat, i < A → k < C → K2w (i : Int) (k : Int) a2 a3 a4 a5 = some (K i k)) : K2x (A : Int) (C : Int) a2 a3 a4 a5 = some ((A : Int), (C : Int), tabM A C K) := by
  have inner : ∀ (i : Nat) (L L0 : List F), i < A → Mat A C L → Mat A C L0 → loopM (K2x_s2 (C : Int) a2 a3 a4 a5 (A : Int) (C : Int) L0 (i : Int)) (L, 0) = some (.inl (fillR K C i L)) := by
    intro i L L0 hi hL hL0
    exact (loop_run (step := K2x_s2 (C : Int) a2 a3 a4 a5 (A : Int) (C : Int) L0 (i : Int)) (fun (k : Nat) (L : List F) => (L, (k : Int))) (fun k L => sm L C i k (K i k)) (fun L => L) (fun _ L => Mat A C L) (lo := 0) (n := C) (Nat.zero_le _) (s0 := L) hL
      (fun k L2 _ hk h3 => by
        refine ⟨?_, h3.set _ _ _⟩
        show K2x_b2 (C : Int) a2 a3 a4 a5 (A : Int) (C : Int) L0 (i : Int) L2 (k : Int) = _
        unfold K2x_b2
        have l1 : decide ((sm L2 C i k (K i k)).length = L0.length) = true := by simp [h3.len, hL0.len]
        rw [dlt hk, bsel_true, hK i k hi hk, obind_eq, K0r_eq _ h3 hi hk, obind_eq, l1, need_true, wsucc (by omega)]
        rfl)
      (fun L2 _ => by
        show K2x_b2 (C : Int) a2 a3 a4 a5 (A : Int) (C : Int) L0 (i : Int) L2 (C : Int) = _
        unfold K2x_b2
        rw [dnlt, bsel_false])).1
  have e := (loop_run (step := K2x_s3 (A : Int) (C : Int) a2 a3 a4 a5 (A : Int) (C : Int) (List.replicate (A * C) (some 0))) (fun (i : Nat) (L : List F) => (L, (i : Int))) (fillR K C) (fun L => L) (fun _ L => Mat A C L) (lo := 0) (n := A) (Nat.zero_le _) (s0 := List.replicate (A * C) (some 0)) (zmat hA hC)
    (fun i L2 _ hi h3 => by
      refine ⟨?_, (fillR_spec h3 hi).1⟩
      show K2x_b3 (A : Int) (C : Int) a2 a3 a4 a5 (A : Int) (C : Int) (List.replicate (A * C) (some 0)) L2 (i : Int) = _
      unfold K2x_b3
      rw [dlt hi, bsel_true, inner i L2 _ hi h3 (zmat hA hC), obind_eq, osum_inl]
      unfold K2x_k2
      rw [wsucc (by omega)]
      rfl)
    (fun L2 _ => by
      show K2x_b3 (A : Int) (C : Int) a2 a3 a4 a5 (A : Int) (C : Int) (List.replicate (A * C) (some 0)) L2 (A : Int) = _
      unfold K2x_b3
      rw [dnlt, bsel_false])).1
  unfold K2x
  replace e : loopM (K2x_s3 (A : Int) (C : Int) a2 a3 a4 a5 (A : Int) (C : Int) (List.replicate (A * C) (some 0))) (List.replicate (A * C) (some 0), 0) = some (.inl (tabM A C K)) := e
  rw [K1f_eq hA hC, obind3_eq, e]; rfl
theorem K30_mk {A C : Nat} (hA : A ≤ 12) (hC : C ≤ 12) (a2 a3 : Int) (a4 : List F) {K : Nat → Nat → F} (hK : ∀ i k : Nat, i < A → k < C → K2z (i : Int) (k : Int) a2 a3 a4 = some (K i k)) : K30 (A : Int) (C : Int) a2 a3 a4 = some ((A : Int), (C : Int), tabM A C K) := by
  have inner : ∀ (i : Nat) (L L0 : List F), i < A → Mat A C L → Mat A C L0 → loopM (K30_s2 (C : Int) a2 a3 a4 (A : Int) (C : Int) L0 (i : Int)) (L, 0) = some (.inl (fillR K C i L)) := by
    intro i L L0 hi hL hL0
    exact (loop_run (step := K30_s2 (C : Int) a2 a3 a4 (A : Int) (C : Int) L0 (i : Int)) (fun (k : Nat) (L : List F) => (L, (k : Int))) (fun k L => sm L C i k (K i k)) (fun L => L) (fun _ L => Mat A C L) (lo := 0) (n := C) (Nat.zero_le _) (s0 := L) hL
      (fun k L2 _ hk h3 => by
        refine ⟨?_, h3.set _ _ _⟩
        show K30_b2 (C : Int) a2 a3 a4 (A : Int) (C : Int) L0 (i : Int) L2 (k : Int) = _
        unfold K30_b2
        have l1 : decide ((sm L2 C i k (K i k)).length = L0.length) = true := by simp [h3.len, hL0.len]
        rw [dlt hk, bsel_true, hK i k hi hk, obind_eq, K0r_eq _ h3 hi hk, obind_eq, l1, need_true, wsucc (by omega)]
        rfl)
      (fun L2 _ => by
        show K30_b2 (C : Int) a2 a3 a4 (A : Int) (C : Int) L0 (i : Int) L2 (C : Int) = _
        unfold K30_b2
        rw [dnlt, bsel_false])).1
  have e := (loop_run (step := K30_s3 (A : Int) (C : Int) a2 a3 a4 (A : Int) (C : Int) (List.replicate (A * C) (some 0))) (fun (i : Nat) (L : List F) => (L, (i : Int))) (fillR K C) (fun L => L) (fun _ L => Mat A C L) (lo := 0) (n := A) (Nat.zero_le _) (s0 := List.replicate (A * C) (some 0)) (zmat hA hC)
    (fun i L2 _ hi h3 => by
      refine ⟨?_, (fillR_spec h3 hi).1⟩
      show K30_b3 (A : Int) (C : Int) a2 a3 a4 (A : Int) (C : Int) (List.replicate (A * C) (some 0)) L2 (i : Int) = _
      unfold K30_b3
      rw [dlt hi, bsel_true, inner i L2 _ hi h3 (zmat hA hC), obind_eq, osum_inl]
      unfold K30_k2
      rw [wsucc (by omega)]
      rfl)
    (fun L2 _ => by
      show K30_b3 (A : Int) (C : Int) a2 a3 a4 (A : Int) (C : Int) (List.replicate (A * C) (some 0)) L2 (A : Int) = _
      unfold K30_b3
      rw [dnlt, bsel_false])).1
  unfold K30
  replace e : loopM (K30_s3 (A : Int) (C : Int) a2 a3 a4 (A : Int) (C : Int) (List.replicate (A * C) (some 0))) (List.replicate (A * C) (some 0), 0) = some (.inl (tabM A C K)) := e
  rw [K1f_eq hA hC, obind3_eq, e]; rfl
def trLo (n : Nat) (M : List F) (i k : Nat) : F := if i = k then some 1065353216 else if i < k then some 0 else gm none M n i k
def trUp (n : Nat) (M : List F) (i k : Nat) : F := if k < i then some 0 else gm none M n i k
theorem i_upper_fv {n : Nat} {M : List F} (m : Mat n n M) : K31 (n : Int) (n : Int) M = some ((n : Int), (n : Int), tabM n n (trUp n M)) := by
  have hn := m.A1
  unfold K31
  rw [K30_mk hn hn _ _ _ (K := trUp n M) (fun i k hi hk => by
    unfold K2z trUp
    by_cases e : k < i
    · rw [if_pos e, decide_eq_true (by omega), bsel_true]
    · rw [if_neg e, decide_eq_false (by omega), bsel_false, K0p_eq _ m hi hk, obind_eq]), obind3_eq]
theorem trLo_fv {n : Nat} {a : Nat → Nat → Rat} {M : List F} (H : TrF n a M) {i t : Nat} (hi : i < n) (ht : t < n) : Fv (trLo n M i t) ∧ vl (trLo n M i t) = pL n M i t ∧ Ab (pL n M i t) 1 := by
  unfold trLo pL
  by_cases e : i = t
  · rw [if_pos e, if_neg (by omega), if_pos e.symm]; exact ⟨one_fv.1, one_fv.2, by decide +kernel, by decide +kernel⟩
  · rw [if_neg e]
    by_cases e2 : i < t
    · rw [if_pos e2, if_neg (by omega), if_neg (by omega)]; exact ⟨fv_zero.1, fv_zero.2, by decide +kernel, by decide +kernel⟩
    · rw [if_neg e2, if_pos (by omega)]; exact ⟨H.fe i t hi ht, rfl, (H.lo i t (by omega) hi).mono (by decide +kernel)⟩
theorem trUp_fv {n : Nat} {a : Nat → Nat → Rat} {M : List F} (H : TrF n a M) {i t : Nat} (hi : i < n) (ht : t < n) : Fv (trUp n M i t) ∧ vl (trUp n M i t) = qU n M i t ∧ Ab (qU n M i t) (95 / 10) := by
  unfold trUp qU
  by_cases e : t < i
  · rw [if_pos e, if_neg (by omega)]; exact ⟨fv_zero.1, fv_zero.2, by decide +kernel, by decide +kernel⟩
  · rw [if_neg e, if_pos (by omega)]
    refine ⟨H.fe i t hi ht, rfl, ?_⟩
    by_cases e2 : i = t
    · subst e2; exact ⟨by have := (H.dia i hi).1; grind, (H.dia i hi).2⟩
    · exact (H.up i t (by omega) ht).mono (by decide +kernel)
theorem tr_mul {n : Nat} {a : Nat → Nat → Rat} {M : List F} (H : TrF n a M) {i k : Nat} (hi : i < n) (hk : k < n) : Fv (mulE n n (tabM n n (trLo n M)) (tabM n n (trUp n M)) i k) ∧ Ab (vl (mulE n n (tabM n n (trLo n M)) (tabM n n (trUp n M)) i k) - a i k) (2 / 10000) := by
  have hn := H.m.A1
  have n5 := H.n5
  have e : mulE n n (tabM n n (trLo n M)) (tabM n n (trUp n M)) i k = dotN (fun j => trLo n M i j) (fun j => trUp n M j k) n := dotN_congr fun j hj => ⟨tabM_gm hn hn hi hj, tabM_gm hn hn hj hk⟩
  rw [e]
  have p : ∀ j, j < n → Ab (vl (trLo n M i j) * vl (trUp n M j k)) (95 / 10) := fun j hj => by
    obtain ⟨_, a2, a3⟩ := trLo_fv H hi hj
    obtain ⟨_, b2, b3⟩ := trUp_fv H hj hk
    rw [a2, b2]
    exact (a3.mul b3).mono (by decide +kernel)
  obtain ⟨d1, d2⟩ := dotN_near (f := fun j => trLo n M i j) (g := fun j => trUp n M j k) (P := 95 / 10) (S := 48) (e := 1 / 100000) (n := n) (by omega) (fun j hj => ⟨(trLo_fv H hi hj).1, (trUp_fv H hj hk).1, p j hj⟩) (fun j hj => (rs_ab16 hj n5 (by decide +kernel) p).mono (by decide +kernel)) (by decide +kernel) (by decide +kernel) (by decide +kernel) (by decide +kernel) (by decide +kernel)
  refine ⟨d1, ?_⟩
  have hn5 : (n : Rat) ≤ 5 := by exact_mod_cast n5
  have e2 : rs (fun t => vl (trLo n M i t) * vl (trUp n M t k)) n = rs (fun t => pL n M i t * qU n M t k) n := rs_congr fun t ht => by rw [(trLo_fv H hi ht).2.1, (trUp_fv H ht hk).2.1]
  rw [e2] at d2
  have := d2.add (tr_prod H hi hk)
  generalize rs (fun t => pL n M i t * qU n M t k) n = T at *
  rw [show vl (dotN (fun j => trLo n M i j) (fun j => trUp n M j k) n) - T + (T - a i k) = vl (dotN (fun j => trLo n M i j) (fun j => trUp n M j k) n) - a i k from by grind] at this
  exact this.mono (by unfold cE; grind)
theorem fmaxN_fv {x y : F} (hx : Fv x) (hy : Fv y) : ∃ z, fmaxN .f32 x y = some z ∧ Fv z ∧ vl x ≤ vl z ∧ vl y ≤ vl z ∧ (vl z = vl x ∨ vl z = vl y) := by
  obtain ⟨n, h1, h2⟩ := hx.rv
  obtain ⟨m, g1, g2⟩ := hy.rv
  have ho := h1.ord g1
  obtain ⟨b, rfl, _⟩ := h1
  obtain ⟨c, rfl, _⟩ := g1
  have ho : FloatKind.f32.format.order b c = some (compare n m) := ho
  have o := hx.rv.ord hy.rv
  unfold fmaxN
  simp only [Option.bind_some]
  rw [ho]
  have hlt := fv_lt hx hy
  have hle := fv_le hx hy
  have hgt := fv_lt hy hx
  have e1 : flt .f32 (some b) (some c) = (some (compare n m) == some .lt) := by
    show (FloatKind.f32.format.order b c == some .lt) = _
    rw [ho]
  have e2 : fle .f32 (some b) (some c) = (some (compare n m) == some .lt || some (compare n m) == some .eq) := by
    show (FloatKind.f32.format.order b c == some .lt || FloatKind.f32.format.order b c == some .eq) = _
    rw [ho]
  rw [hlt] at e1
  rw [hle] at e2
  cases hc : compare n m with
  | lt =>
    rw [hc] at e1
    have : vl (some b) < vl (some c) := of_decide_eq_true (by rw [e1]; rfl)
    exact ⟨some c, rfl, hy, Rat.le_of_lt this, Rat.le_refl, .inr rfl⟩
  | gt =>
    rw [hc] at e2
    have : ¬ vl (some b) ≤ vl (some c) := of_decide_eq_false (by rw [e2]; rfl)
    exact ⟨some b, rfl, hx, Rat.le_refl, Rat.le_of_lt (Rat.not_le.1 this), .inl rfl⟩
  | eq =>
    rw [hc] at e1 e2
    have h1 : ¬ vl (some b) < vl (some c) := of_decide_eq_false (by rw [e1]; rfl)
    have h2 : vl (some b) ≤ vl (some c) := of_decide_eq_true (by rw [e2]; rfl)
    have h3 : vl (some b) = vl (some c) := Rat.le_antisymm h2 (Rat.not_lt.1 h1)
    simp only
    by_cases hn : (FloatKind.f32.decode b).neg = true
    · refine ⟨some c, by rw [if_pos hn], hy, by rw [h3]; exact Rat.le_refl, Rat.le_refl, .inr rfl⟩
    · refine ⟨some b, by rw [if_neg hn], hx, Rat.le_refl, by rw [h3]; exact Rat.le_refl, .inl rfl⟩
theorem putC_gm {n k : Nat} {c L : List F} (m : Mat n n L) (hk : k < n) : ∀ i j, i < n → j < n → gm none (putC n k c L) n i j = if j = k then c.getD i none else gm none L n i j := by
  have inv := run_inv (f := fun i L => sm L n i k (c.getD i none)) (fun q (L' : List F) => q ≤ n → Mat n n L' ∧ ∀ i j, i < n → j < n → gm none L' n i j = if j = k ∧ i < q then c.getD i none else gm none L n i j) n 0 L (fun _ => ⟨m, fun i j _ _ => by rw [if_neg (by omega)]⟩) (fun q L' _ hq hI hq1 => by
    obtain ⟨i1, i2⟩ := hI (by omega)
    refine ⟨i1.set _ _ _, fun i j hi hj => ?_⟩
    rw [gm_set i1 (by omega) hk hj, i2 i j hi hj]
    by_cases e : q = i ∧ k = j
    · obtain ⟨rfl, rfl⟩ := e
      rw [if_pos ⟨rfl, rfl⟩, if_pos ⟨rfl, by omega⟩]
    · rw [if_neg e]
      by_cases e2 : j = k ∧ i < q
      · rw [if_pos e2, if_pos ⟨e2.1, by omega⟩]
      · rw [if_neg e2, if_neg (show ¬ (j = k ∧ i < q + 1) by omega)])
  intro i j hi hj
  have := (inv (by omega)).2 i j hi hj
  show gm none (putC n k c L) n i j = _
  have e : run (fun i L => sm L n i k (c.getD i none)) 0 n L = putC n k c L := rfl
  rw [e] at this
  rw [this]
  by_cases e : j = k
  · rw [if_pos ⟨e, by omega⟩, if_pos e]
  · rw [if_neg (fun h => e h.1), if_neg e]
theorem invM_gm {n : Nat} {X : List F} {o : List Int} (hn : n ≤ 12) : ∀ i j, i < n → j < n → gm none (invM n X o) n i j = (solP n X o j).getD i none := by
  have inv := run_inv (f := fun k L => putC n k (solP n X o k) L) (fun q (L' : List F) => q ≤ n → Mat n n L' ∧ ∀ i j, i < n → j < q → gm none L' n i j = (solP n X o j).getD i none) n 0 (List.replicate (n * n) (some 0)) (fun _ => ⟨zmat hn hn, fun i j _ h => by omega⟩) (fun q L' _ hq hI hq1 => by
    obtain ⟨i1, i2⟩ := hI (by omega)
    refine ⟨putC_mat i1, fun i j hi hj => ?_⟩
    rw [putC_gm i1 (by omega) i j hi (by omega)]
    by_cases e : j = q
    · rw [if_pos e, e]
    · rw [if_neg e]; exact i2 i j hi (by omega))
  intro i j hi hj
  exact (inv (by omega)).2 i j hi (by omega)
theorem unitC_at {n k i : Nat} (hk : k < n) (hi : i < n) : (unitC n k).getD i none = unitF i k := by
  unfold unitC unitF
  rw [set_getD (by simpa using hk), List.getD_eq_getElem?_getD, List.getElem?_replicate, if_pos hi]
  by_cases e : k = i
  · rw [if_pos e, decide_eq_true e.symm]; rfl
  · rw [if_neg e, decide_eq_false (fun h => e h.symm)]; rfl
theorem unitF_fv (i k : Nat) : Fv (unitF i k) ∧ Ab (vl (unitF i k)) 4 := by
  unfold unitF
  cases decide (i = k)
  · exact ⟨fv_zero.1, by show Ab (vl (some 0)) 4; rw [fv_zero.2]; exact ⟨by decide +kernel, by decide +kernel⟩⟩
  · exact ⟨one_fv.1, by show Ab (vl (some 1065353216)) 4; rw [one_fv.2]; exact ⟨by decide +kernel, by decide +kernel⟩⟩
theorem inv_near {n : Nat} {L M : List F} (hL : SqM n L) (n0 : 0 < n) (H : TrF n (fun i k => vl (gm none L n i k)) M) (T : LTab n (fun i k => vl (gm none L n i k))) :
    K1p (n : Int) (n : Int) M (upTo n) = some ((n : Int), (n : Int), true, invM n M (upTo n)) ∧ Mat n n (invM n M (upTo n)) ∧ (∀ x ∈ invM n M (upTo n), Fv x) ∧ ∀ i k, i < n → k < n → Fv (mulE n n L (invM n M (upTo n)) i k) ∧ Ab (vl (mulE n n L (invM n M (upTo n)) i k) - vl (unitF i k)) (9 / 10000) := by
  have hn := H.m.A1
  have h5 := H.n5
  obtain ⟨mI, gI⟩ := invM_inv (X := M) (o := upTo n) hn
  have sp : ∀ k, k < n → solP n M (upTo n) k = upL (upH n M) n (lowL (rowH n M) (unitC n k) n) := fun k hk => by unfold solP; rw [ordC_upTo unitC_len]
  have S : ∀ k, k < n → _ := fun k hk => fac_solve H T n0 (b := unitC n k) unitC_len (fun i hi => by rw [unitC_at hk hi]; exact unitF_fv i k)
  have fI : ∀ x ∈ invM n M (upTo n), Fv x := fun x hx => by
    obtain ⟨i, k, hi, hk, rfl⟩ := mem_gm mI hx
    obtain ⟨s1, s2, _⟩ := S k hk
    rw [invM_gm hn i k hi hk, sp k hk]
    exact s1 _ (getD_mem (by omega))
  have hr : ∀ i, i < n → 0 ≤ (upTo n).getD i 0 ∧ (upTo n).getD i 0 < (n : Int) := fun i hi => by rw [upTo_at hi]; omega
  refine ⟨?_, mI, fI, fun i k hi hk => ?_⟩
  · rw [K1p_eq H.m n0 (tr_oks H) (upTo_len n) hr (tr_fac H n0)]
    unfold inP
    rw [show (invM n M (upTo n)).all fin32 = true from List.all_eq_true.2 fun y hy => (fI y hy).fin]; rfl
  · obtain ⟨s1, s2, s3⟩ := S k hk
    have e : mulE n n L (invM n M (upTo n)) i k = dotN (fun j => gm none L n i j) (fun j => (upL (upH n M) n (lowL (rowH n M) (unitC n k) n)).getD j none) n := dotN_congr fun j hj => ⟨rfl, by rw [invM_gm hn j k hj hk, sp k hk]⟩
    have := times_near hL h5 n0 s2 s1 s3 i hi
    rw [unitC_at hk hi] at this
    rw [e]; exact this
def prn (x : Nat → Rat) (X : Rat) (a : Nat) : Nat → Rat
  | 0 => 1
  | m + 1 => prn x X a m * (X - x (a + m))
def pX (c : Nat) : Nat → Rat
  | 0 => 1
  | j + 1 => pX c j * (3 / 2 * ((c - j : Nat) : Rat))
def mT : Nat → Rat | 0 => 4 | 1 => 16001 / 1000 | 2 => 32003 / 1000 | 3 => 42672 / 1000 | 4 => 42674 / 1000 | _ => 34142 / 1000
def sT (v : Nat) : Rat := 2 * mT v + h32 (2 * mT v)
def eT (v : Nat) : Rat := h32 (2 * mT v) + sT v / 8388608 + 1 / 10000000000000
def eB (m : Nat) : Rat := rs (fun j => eT j * pX (m - 1) j) m
def eK (k : Nat) : Rat := rs (fun j => eB (j + 1)) k
def hp (d x : Nat → Rat) (X : Rat) (i : Nat) : Nat → Rat
  | 0 => 0
  | m + 1 => hp d x X i m + d (i + m) * prn x X i m
def hB (k : Nat) : Nat → Rat
  | 0 => 4 + eK k
  | i + 1 => (hB k i + mT i) / (((k - i : Nat) : Rat) / 2)
theorem loop_go {S ρ ε : Type} {step : S → Option (LR S ε ρ)} (mk : Nat → S) {e : ε} : ∀ (m i : Nat), (∀ j, i ≤ j → j < i + m → step (mk j) = some (.next (mk (j + 1)))) → step (mk (i + m)) = some (.out e) → loopM step (mk i) = some (.inl e)
  | 0, i, _, ho => loopM_out (by rw [Nat.add_zero] at ho; exact ho)
  | m + 1, i, hs, ho => by
    rw [loopM_next (hs i (Nat.le_refl _) (by omega))]
    exact loop_go mk m (i + 1) (fun j h1 h2 => hs j (by omega) (by omega)) (by rw [show i + 1 + m = i + (m + 1) from by omega]; exact ho)
def dm (a b : F) : F := fop .add .f32 (some 0) (fop .mul .f32 a b)
def tk (a : F) : Nat → F
  | 0 => some 1065353216
  | k + 1 => fop .quo .f32 (dm (tk a k) a) (fint .f32 ((k + 1 : Nat) : Int))
theorem rs_abw {f g : Nat → Rat} : ∀ {n : Nat}, (∀ j, j < n → Ab (f j) (g j)) → Ab (rs f n) (rs g n)
  | 0, _ => by unfold rs; exact ⟨by simp, by simp⟩
  | n + 1, h => by
    unfold rs
    exact (rs_abw (n := n) fun j hj => h j (by omega)).add (h n (by omega))
theorem Rv.nn {k : FloatKind} {q : Rat} {x : F} (h : Rv k q x) (h0 : -(1 / 2 ^ (lpn k + 1)) ≤ q) : 0 ≤ q := by
  obtain ⟨n, _, e⟩ := h
  have hp := p2 (lpn k)
  have e2 : (1 : Rat) / 2 ^ (lpn k + 1) * 2 ^ lpn k = 1 / 2 := by
    have : (2 : Rat) ^ (lpn k + 1) = 2 ^ lpn k * 2 := by rw [rpow_add]; grind
    rw [this]
    generalize (2 : Rat) ^ lpn k = Z at *
    grind
  have h1 := Rat.mul_le_mul_of_nonneg_right h0 (Rat.le_of_lt hp)
  rw [← e] at h1
  have h2 : -(1 / 2 : Rat) ≤ (n : Rat) := by
    have : -((1 : Rat) / 2 ^ (lpn k + 1)) * 2 ^ lpn k = -(1 / 2) := by rw [Rat.neg_mul, e2]
    rw [this] at h1; exact h1
  have h3 : (0 : Int) ≤ n := by
    by_cases h : 0 ≤ n
    · exact h
    · exfalso
      have : (n : Rat) ≤ ((-1 : Int) : Rat) := by exact_mod_cast (show n ≤ -1 by omega)
      have c : ((-1 : Int) : Rat) = -1 := by decide +kernel
      rw [c] at this
      grind
  have h4 : (0 : Rat) ≤ q * 2 ^ lpn k := by rw [← e]; exact_mod_cast h3
  exact Rat.le_of_mul_le_mul_right (c := 2 ^ lpn k) (by rw [Rat.zero_mul]; exact h4) hp
theorem one_f32 : Fv (some 1065353216) ∧ vl (some 1065353216) = 1 := by
  have d : Dy .f32 0 1 (some 1065353216) := ⟨1065353216, rfl, by decide, by decide, by decide, by decide +kernel⟩
  have := d.fv
  exact ⟨this.1, by rw [this.2]; simp; grind⟩
theorem getD_mapR {α : Type} (f : Nat → α) {n j : Nat} (hj : j < n) {d : α} : ((List.range n).map f).getD j d = f j := by simp [List.getD, hj]
theorem rs_const (c : Rat) : ∀ n : Nat, rs (fun _ => c) n = (n : Rat) * c
  | 0 => by simp [rs]
  | n + 1 => by unfold rs; rw [rs_const c n]; push_cast; grind
def dst (i j : Nat) : Nat := if j ≤ i then i - j else j - i
theorem setLoop {ρ : Type} {step : List F × Int → Option (LR (List F × Int) (List F) ρ)} {g : Nat → F → F} {n : Nat} {L : List F} (hl : L.length = n) (hs : ∀ (j : Nat) (M : List F), j < n → M.length = n → step (M, (j : Int)) = some (.next (M.set j (g j (M.getD j none)), ((j + 1 : Nat) : Int))))
    (he : ∀ M : List F, M.length = n → step (M, (n : Int)) = some (.out M)) : loopM step (L, 0) = some (.inl ((List.range n).map fun i => g i (L.getD i none))) := by
  have e := (loop_run (step := step) (fun (i : Nat) (M : List F) => (M, (i : Int))) (fun i M => M.set i (g i (M.getD i none))) (fun M => M) (fun _ M => M.length = n) (lo := 0) (n := n) (Nat.zero_le _) (s0 := L) hl
    (fun i M _ hi hM => ⟨hs i M hi hM, by simp [hM]⟩) (fun M hM => he M hM)).1
  rw [Nat.sub_zero, run_set g hl] at e
  exact e
noncomputable def tv (l : List F) (k : Nat) : Rat := vl (l.getD k none)
theorem allFinite_fv {l : List F} (h1 : l.length ≤ 1000000) (f : ∀ x ∈ l, Fv x) : K1z l = some (.inl (true, l)) := by
  unfold K1z
  rw [K0j_eq (fun x hx => (f x hx).fok) (by omega), List.all_eq_true.2 fun x hx => (f x hx).fin, obind_eq, bsel_true]
theorem all_of_getD {l : List F} {n : Nat} (hl : l.length = n) (h : ∀ i, i < n → Fv (l.getD i none)) : ∀ x ∈ l, Fv x := fun x hx => by
  obtain ⟨i, hi, rfl⟩ := mem_getD hx
  exact h i (by rw [← hl]; exact hi)
theorem areFin_fv {l : List F} {n : Nat} (hl : l.length = n) (hn : n ≤ 100) (h : ∀ i, i < n → Fv (l.getD i none)) : K0j l = some true := by
  have f := all_of_getD hl h
  rw [K0j_eq (fun x hx => (f x hx).fok) (by omega), List.all_eq_true.2 fun x hx => (f x hx).fin]
def trn (k p r : Nat) : Nat := if r = k then p else if r = p then k else r
theorem trn_lt {k p r n : Nat} (hk : k < n) (hp : p < n) (hr : r < n) : trn k p r < n := by
  unfold trn
  by_cases h : r = k
  · rw [if_pos h]; exact hp
  · rw [if_neg h]
    by_cases h2 : r = p
    · rw [if_pos h2]; exact hk
    · rw [if_neg h2]; exact hr
theorem trn_ge {k p r : Nat} (hp : k ≤ p) (hr : k ≤ r) : k ≤ trn k p r := by
  unfold trn
  by_cases h : r = k
  · rw [if_pos h]; exact hp
  · rw [if_neg h]
    by_cases h2 : r = p
    · rw [if_pos h2]; exact Nat.le_refl _
    · rw [if_neg h2]; exact hr
theorem trn_low {k p r : Nat} (hp : k ≤ p) (hr : r < k) : trn k p r = r := by unfold trn; rw [if_neg (by omega), if_neg (by omega)]
theorem trn_inj {k p i j : Nat} (h : trn k p i = trn k p j) : i = j := by
  unfold trn at h
  split at h <;> split at h <;> (try split at h) <;> (try split at h) <;> omega
theorem swapR_gm {n k p : Nat} {L : List F} (m : Mat n n L) (hk : k < n) (hp : p < n) : ∀ r s, r < n → s < n → gm none (swapR none n k p L) n r s = gm none L n (trn k p r) s := by
  unfold swapR
  have := run_inv (f := swapP none n k p) (fun c L' => Mat n n L' ∧ ∀ r s, r < n → s < n → gm none L' n r s = if s < c then gm none L n (trn k p r) s else gm none L n r s) n 0 L ⟨m, fun r s _ _ => by rw [if_neg (by omega)]⟩ (fun c L' _ hc ⟨m', h⟩ => by
    have hc : c < n := by omega
    refine ⟨swapP_mat m', fun r s hr hs => ?_⟩
    unfold swapP
    rw [gm_set (m'.set _ _ _) hp hc hs, gm_set m' hk hc hs, h k c hk hc, h p c hp hc, h r s hr hs, if_neg (show ¬ c < c by omega), if_neg (show ¬ c < c by omega)]
    unfold trn
    by_cases e : c = s
    · subst e
      rw [if_pos (show c < c + 1 by omega), if_neg (show ¬ c < c by omega)]
      by_cases e1 : p = r
      · rw [if_pos ⟨e1, rfl⟩]
        by_cases e2 : r = k
        · rw [if_pos e2, e1, e2]
        · rw [if_neg e2, if_pos e1.symm]
      · rw [if_neg fun h => e1 h.1]
        by_cases e2 : k = r
        · rw [if_pos ⟨e2, rfl⟩, if_pos e2.symm]
        · rw [if_neg fun h => e2 h.1, if_neg fun h => e2 h.symm, if_neg fun h => e1 h.symm]
    · rw [if_neg fun h => e h.2, if_neg fun h => e h.2]
      by_cases e1 : s < c
      · rw [if_pos e1, if_pos (show s < c + 1 by omega)]
      · rw [if_neg e1, if_neg (show ¬ s < c + 1 by omega)])
  intro r s hr hs
  rw [this.2 r s hr hs, if_pos (by omega)]
theorem swapK_gm {n k p : Nat} {L : List F} (m : Mat n n L) (hk : k < n) (hp : p < n) : ∀ r s, r < n → s < n → gm none (swapK none n n k p L) n r s = gm none L n r (trn k p s) := by
  unfold swapK
  have := run_inv (f := swapQ none n k p) (fun c L' => Mat n n L' ∧ ∀ r s, r < n → s < n → gm none L' n r s = if r < c then gm none L n r (trn k p s) else gm none L n r s) n 0 L ⟨m, fun r s _ _ => by rw [if_neg (by omega)]⟩ (fun c L' _ hc ⟨m', h⟩ => by
    have hc : c < n := by omega
    refine ⟨swapQ_mat m', fun r s hr hs => ?_⟩
    unfold swapQ
    rw [gm_set (m'.set _ _ _) hc hp hs, gm_set m' hc hk hs, h c k hc hk, h c p hc hp, h r s hr hs, if_neg (show ¬ c < c by omega), if_neg (show ¬ c < c by omega)]
    unfold trn
    by_cases e : c = r
    · subst e
      rw [if_pos (show c < c + 1 by omega), if_neg (show ¬ c < c by omega)]
      by_cases e1 : p = s
      · rw [if_pos ⟨rfl, e1⟩]
        by_cases e2 : s = k
        · rw [if_pos e2, e1, e2]
        · rw [if_neg e2, if_pos e1.symm]
      · rw [if_neg fun h => e1 h.2]
        by_cases e2 : k = s
        · rw [if_pos ⟨rfl, e2⟩, if_pos e2.symm]
        · rw [if_neg fun h => e2 h.2, if_neg fun h => e2 h.symm, if_neg fun h => e1 h.symm]
    · rw [if_neg fun h => e h.1, if_neg fun h => e h.1]
      by_cases e1 : r < c
      · rw [if_pos e1, if_pos (show r < c + 1 by omega)]
      · rw [if_neg e1, if_neg (show ¬ r < c + 1 by omega)])
  intro r s hr hs
  rw [this.2 r s hr hs, if_pos (by omega)]
theorem LTab.trn {n k p : Nat} {a : Nat → Nat → Rat} (T : LTab n a) (hk : k < n) (hp : p < n) : LTab n (fun i j => a (trn k p i) (trn k p j)) :=
  ⟨T.n5, fun i j hi hj hne => T.off _ _ (trn_lt hk hp hi) (trn_lt hk hp hj) fun e => hne (trn_inj e), fun i hi => T.dia _ (trn_lt hk hp hi)⟩
theorem LuInv.swap {n k p : Nat} {a : Nat → Nat → Rat} {L : List F} (h : LuInv n a k L) (hk : k < n) (hkp : k ≤ p) (hp : p < n) : LuInv n (fun i j => a (trn k p i) (trn k p j)) k (swapK none n n k p (swapR none n k p L)) := by
  have m1 : Mat n n (swapR none n k p L) := swapR_mat h.m
  have g : ∀ i j, i < n → j < n → gm none (swapK none n n k p (swapR none n k p L)) n i j = gm none L n (trn k p i) (trn k p j) := fun i j hi hj => by
    rw [swapK_gm m1 hk hp i j hi hj, swapR_gm h.m hk hp i _ hi (trn_lt hk hp hj)]
  have w : ∀ i j, i < n → j < n → vm n (swapK none n n k p (swapR none n k p L)) i j = vm n L (trn k p i) (trn k p j) := fun i j hi hj => by unfold vm; rw [g i j hi hj]
  have s : ∀ j i c, j ≤ k → i < n → c < n → slu (fun i j => a (trn k p i) (trn k p j)) (vm n (swapK none n n k p (swapR none n k p L))) j i c = slu a (vm n L) j (trn k p i) (trn k p c) := fun j i c hj hi hc => by
    unfold slu
    rw [rs_congr fun t ht => by rw [w i t hi (by omega), w t c (by omega) hc, trn_low hkp (show t < k by omega)]]
  refine ⟨swapK_mat m1, fun i j hi hj => by rw [g i j hi hj]; exact h.fv _ _ (trn_lt hk hp hi) (trn_lt hk hp hj), ⟨fun i t ht hti hi => ?_, fun i j hi hij hj => ?_⟩, fun i j hi hj hin hjn => ?_⟩
  · rw [w i t hi (by omega), w t t (by omega) (by omega), s t i t (by omega) hi (by omega), trn_low hkp ht]
    refine h.d.lo _ t ht ?_ (trn_lt hk hp hi)
    by_cases e : i < k
    · rw [trn_low hkp e]; exact hti
    · have := trn_ge hkp (show k ≤ i by omega); omega
  · rw [w i j (by omega) hj, s i i j (by omega) (by omega) hj, trn_low hkp hi]
    refine h.d.up i _ hi ?_ (trn_lt hk hp hj)
    by_cases e : j < k
    · rw [trn_low hkp e]; exact hij
    · have := trn_ge hkp (show k ≤ j by omega); omega
  · rw [w i j hin hjn, s k i j (Nat.le_refl _) hin hjn]
    exact h.act _ _ (trn_ge hkp hi) (trn_ge hkp hj) (trn_lt hk hp hin) (trn_lt hk hp hjn)
theorem findA_diag {n k : Nat} {a : Nat → Nat → Rat} {L : List F} (T : LTab n a) (hk : k < n) (h : LuInv n a k L) : (findA n k L).1 = (findA n k L).2 ∧ k ≤ (findA n k L).1 ∧ (findA n k L).1 < n ∧ 464 / 100 ≤ vl (fabs32 (gm none L n (findA n k L).1 (findA n k L).2)) ∧ Fv (fabs32 (gm none L n (findA n k L).1 (findA n k L).2)) ∧ vl (fabs32 (gm none L n (findA n k L).1 (findA n k L).2)) ≤ 95 / 10 := by
  have n5 := T.n5
  obtain ⟨B, _⟩ := slu_bound T (by omega) h.d k (Nat.le_refl _)
  obtain ⟨q1, q2, q3, q4, q5, q6, q7, q8, q9, q10⟩ := l_num k (by omega)
  have hk4 : (k : Rat) * (1 / 400000) ≤ 1 / 100000 := by
    have : (k : Rat) ≤ 4 := by exact_mod_cast (show k ≤ 4 by omega)
    grind
  have dia : ∀ i, k ≤ i → i < n → 464 / 100 ≤ vl (fabs32 (gm none L n i i)) ∧ Fv (fabs32 (gm none L n i i)) ∧ vl (fabs32 (gm none L n i i)) ≤ 95 / 10 := fun i hi hin => by
    have d := (B i i hi hi hin hin).dia rfl
    have c := h.act i i hi hi hin hin
    obtain ⟨f1, f2, f3⟩ := fv_abs (h.fv i i hin hin)
    have hv : 464 / 100 ≤ vl (gm none L n i i) ∧ vl (gm none L n i i) ≤ 95 / 10 := by
      show 464 / 100 ≤ vm n L i i ∧ vm n L i i ≤ 95 / 10
      exact ⟨by have := c.1; grind, by have := c.2; grind⟩
    refine ⟨?_, f1, ?_⟩
    · rcases f2 with e | e
      · rw [e]; exact hv.1
      · rw [e] at f3; grind
    · rcases f2 with e | e
      · rw [e]; exact hv.2
      · rw [e] at f3; grind
  have off : ∀ i j, k ≤ i → k ≤ j → i < n → j < n → i ≠ j → Fv (fabs32 (gm none L n i j)) ∧ vl (fabs32 (gm none L n i j)) ≤ 241 / 100 := fun i j hi hj hin hjn hne => by
    have c := (h.act i j hi hj hin hjn).add ((B i j hi hj hin hjn).off hne)
    rw [show vm n L i j - slu a (vm n L) k i j + slu a (vm n L) k i j = vm n L i j from by grind] at c
    have c : Ab (vl (gm none L n i j)) ((k : Rat) * (1 / 400000) + tO k) := c
    obtain ⟨f1, f2, f3⟩ := fv_abs (h.fv i j hin hjn)
    refine ⟨f1, ?_⟩
    rcases f2 with e | e
    · rw [e]; have := c.2; grind
    · rw [e]; have := c.1; grind
  have inv : (findA n k L).1 = (findA n k L).2 ∧ k ≤ (findA n k L).1 ∧ (findA n k L).1 < n := by
    unfold findA
    have := run_inv (f := findR n k L) (fun _ p => p.1 = p.2 ∧ k ≤ p.1 ∧ p.1 < n) (n - k) k (k, k) ⟨rfl, Nat.le_refl _, hk⟩ (fun i p hi hin hp => by
      unfold findR
      have := run_inv (f := fun c p => findB n L i c p) (fun _ p => p.1 = p.2 ∧ k ≤ p.1 ∧ p.1 < n) (n - k) k p hp (fun c p hc hcn hp => by
        obtain ⟨p1, p2, p3⟩ := hp
        unfold findB
        by_cases e : i = c
        · cases flt .f32 (fabs32 (gm none L n p.1 p.2)) (fabs32 (gm none L n i c))
          · exact ⟨p1, p2, p3⟩
          · show i = c ∧ k ≤ i ∧ i < n
            exact ⟨e, hi, by omega⟩
        · obtain ⟨o1, o2⟩ := off i c hi hc (by omega) (by omega) e
          obtain ⟨d1, d2, _⟩ := dia p.1 p2 p3
          rw [← p1, fv_lt d2 o1, decide_eq_false (by grind)]
          exact ⟨p1, p2, p3⟩)
      exact this)
    exact this
  obtain ⟨i1, i2, i3⟩ := inv
  refine ⟨i1, i2, i3, ?_⟩
  rw [← i1]
  exact dia _ i2 i3
def oat (o : List Int) (i : Nat) : Nat := (o.getD i 0).toNat
structure FbLu (n : Nat) (a : Nat → Nat → Rat) (k : Nat) (s : FB) : Prop where
  oc : s.2.1 = s.2.2
  len : s.2.1.length = n
  nn : ∀ i, i < n → 0 ≤ s.2.1.getD i 0
  lt : ∀ i, i < n → oat s.2.1 i < n
  inj : ∀ i j, i < n → j < n → oat s.2.1 i = oat s.2.1 j → i = j
  lu : LuInv n (fun i j => a (oat s.2.1 i) (oat s.2.1 j)) k s.1
theorem LTab.perm {n : Nat} {a : Nat → Nat → Rat} (T : LTab n a) {π : Nat → Nat} (h : ∀ i, i < n → π i < n) (hi : ∀ i j, i < n → j < n → π i = π j → i = j) : LTab n (fun i j => a (π i) (π j)) :=
  ⟨T.n5, fun i j h1 h2 hne => T.off _ _ (h i h1) (h j h2) fun e => hne (hi i j h1 h2 e), fun i h1 => T.dia _ (h i h1)⟩
theorem trade_at {k p n : Nat} {o : List Int} (hl : o.length = n) (hk : k < n) (hp : p < n) : ∀ i, i < n → (tradeP k p o).getD i 0 = o.getD (trn k p i) 0 := by
  intro i hi
  unfold tradeP trn
  have s1 : ∀ (l : List Int) (x : Int) (j : Nat), j < l.length → ∀ q, (l.set q x).getD j 0 = if q = j then x else l.getD j 0 := fun l x j hj q => by
    by_cases h : q = j
    · subst h; rw [if_pos rfl]; simp [List.getD, hj]
    · rw [if_neg h]; simp [List.getD, List.getElem?_set_ne h]
  rw [s1 _ _ _ (by simp [hl, hi]), s1 _ _ _ (by simp [hl, hi])]
  by_cases e : p = i
  · rw [if_pos e]
    by_cases e2 : i = k
    · rw [if_pos e2, e, e2]
    · rw [if_neg e2, if_pos e.symm]
  · rw [if_neg e]
    by_cases e2 : k = i
    · rw [if_pos e2, if_pos e2.symm]
    · rw [if_neg e2, if_neg fun h => e2 h.symm, if_neg fun h => e h.symm]
theorem fb_step {n k : Nat} {a : Nat → Nat → Rat} {s : FB} (T : LTab n a) (hk : k < n) (h : FbLu n a k s) : ∃ s', fbStep n (some 0) k s = .next s' ∧ FbLu n a (k + 1) s' := by
  have T1 := T.perm h.lt h.inj
  obtain ⟨f1, f2, f3, f4, f5, f6⟩ := findA_diag T1 hk h.lu
  have sw := h.lu.swap hk f2 f3
  obtain ⟨_, _, st⟩ := lu_step (T1.trn hk f3) hk sw
  have al : (elimP n n k (swapK none n n k (findA n k s.1).1 (swapR none n k (findA n k s.1).1 s.1))).all fin32 = true := List.all_eq_true.2 fun x hx => by
    obtain ⟨i, j, hi, hj, rfl⟩ := mem_gm st.m hx
    exact (st.fv i j hi hj).fin
  have ol : (tradeP k (findA n k s.1).1 s.2.1).length = n := by rw [tradeP_len]; exact h.len
  have oa : ∀ i, i < n → oat (tradeP k (findA n k s.1).1 s.2.1) i = oat s.2.1 (trn k (findA n k s.1).1 i) := fun i hi => by unfold oat; rw [trade_at h.len hk f3 i hi]
  refine ⟨(elimP n n k (swapK none n n k (findA n k s.1).1 (swapR none n k (findA n k s.1).1 s.1)), tradeP k (findA n k s.1).1 s.2.1, tradeP k (findA n k s.1).1 s.2.2), ?_, ⟨by show tradeP _ _ s.2.1 = tradeP _ _ s.2.2; rw [h.oc], ol, fun i hi => ?_, fun i hi => ?_, fun i j hi hj e => ?_, ?_⟩⟩
  · unfold fbStep fbPick
    rw [← f1] at f4 f5 ⊢
    rw [fv_le f5 fv_zero.1, fv_zero.2, decide_eq_false (by grind), cond_false, al, cond_true]
  · show 0 ≤ (tradeP k (findA n k s.1).1 s.2.1).getD i 0
    rw [trade_at h.len hk f3 i hi]; exact h.nn _ (trn_lt hk f3 hi)
  · show oat (tradeP k (findA n k s.1).1 s.2.1) i < n
    rw [oa i hi]; exact h.lt _ (trn_lt hk f3 hi)
  · have e : oat (tradeP k (findA n k s.1).1 s.2.1) i = oat (tradeP k (findA n k s.1).1 s.2.1) j := e
    rw [oa i hi, oa j hj] at e
    exact trn_inj (h.inj _ _ (trn_lt hk f3 hi) (trn_lt hk f3 hj) e)
  · show LuInv n (fun i j => a (oat (tradeP k (findA n k s.1).1 s.2.1) i) (oat (tradeP k (findA n k s.1).1 s.2.1) j)) (k + 1) _
    have cg : ∀ (b b' : Nat → Nat → Rat) (q : Nat) (L : List F), (∀ i j, i < n → j < n → b i j = b' i j) → LuInv n b q L → q ≤ n → LuInv n b' q L := fun b b' q L hb hL hq => by
      have ss : ∀ j i c, i < n → c < n → slu b (vm n L) j i c = slu b' (vm n L) j i c := fun j i c hi hc => by unfold slu; rw [hb i c hi hc]
      refine ⟨hL.m, hL.fv, ⟨fun i t h1 h2 h3 => ?_, fun i j h1 h2 h3 => ?_⟩, fun i j h1 h2 h3 h4 => ?_⟩
      · rw [← ss t i t h3 (by omega)]; exact hL.d.lo i t h1 h2 h3
      · rw [← ss i i j (by omega) h3]; exact hL.d.up i j h1 h2 h3
      · rw [← ss q i j h3 h4]; exact hL.act i j h1 h2 h3 h4
    exact cg _ _ _ _ (fun i j hi hj => by rw [oa i hi, oa j hj]) st hk
theorem upTo_oat {n i : Nat} (hi : i < n) : oat (upTo n) i = i := by unfold oat; rw [upTo_at hi]; omega
theorem fb_start {n : Nat} {a : Nat → Nat → Rat} {L : List F} (m : Mat n n L) (fv : ∀ i j, i < n → j < n → Fv (gm none L n i j)) (ha : ∀ i j, i < n → j < n → vm n L i j = a i j) : FbLu n a 0 (L, upTo n, upTo n) := by
  refine ⟨rfl, upTo_len n, fun i hi => by rw [upTo_at hi]; omega, fun i hi => by rw [upTo_oat hi]; exact hi, fun i j hi hj e => by rw [upTo_oat hi, upTo_oat hj] at e; exact e, ⟨m, fv, ⟨fun i t h => by omega, fun i j h => by omega⟩, fun i j _ _ hi hj => ?_⟩⟩
  rw [slu_zero, upTo_oat hi, upTo_oat hj, ha i j hi hj]
  exact ⟨by simp; grind, by simp; grind⟩
theorem fb_run {n : Nat} {a : Nat → Nat → Rat} (T : LTab n a) : ∀ (m k : Nat) (s : FB), k + m = n → FbLu n a k s → ∃ s', runL (fbStep n (some 0)) (fun s => (s.1, s.2.1, s.2.2, (n : Int))) k m s = .inl (s'.1, s'.2.1, s'.2.2, (n : Int)) ∧ FbLu n a n s'
  | 0, k, s, hk, h => ⟨s, rfl, by rw [show n = k from by omega]; exact (show n = k from by omega) ▸ h⟩
  | m + 1, k, s, hk, h => by
    obtain ⟨s1, e1, h1⟩ := fb_step T (by omega) h
    obtain ⟨s', e2, h2⟩ := fb_run T m (k + 1) s1 (by omega) h1
    refine ⟨s', ?_, h2⟩
    unfold runL
    rw [e1]; exact e2
theorem fb_none {n : Nat} {a : Nat → Nat → Rat} {near : F} (T : LTab n a) (n0 : 0 < n) {s : FB} (h : FbLu n a 0 s) (fn : Fv near) (hn : 10 ≤ vl near) : fbStep n near 0 s = .out (s.1, s.2.1, s.2.2, 0) := by
  obtain ⟨f1, f2, f3, f4, f5, f6⟩ := findA_diag (T.perm h.lt h.inj) n0 h.lu
  unfold fbStep fbPick
  rw [fv_le f5 fn, decide_eq_true (by grind), cond_true]
  rfl
structure LuT (n : Nat) (a : Nat → Nat → Rat) (k : Nat) (L : List F) : Prop where
  lo : ∀ i t, t < k → t < i → i < n → Ab (vm n L i t * vm n L t t - slu a (vm n L) t i t) (13 / 1000000)
  up : ∀ i j, i < k → i ≤ j → j < n → Ab (vm n L i j - slu a (vm n L) i i j) (13 / 1000000)
theorem lu_fine {n k : Nat} {a : Nat → Nat → Rat} {L : List F} (T : LTab n a) (hk : k < n) (h : LuInv n a k L) (h2 : LuT n a k L) : LuT n a (k + 1) (elimP n n k L) := by
  have n5 := T.n5
  have c0 : cE = 3 / 100000 := rfl
  obtain ⟨B, _⟩ := slu_bound T (by omega) h.d k (Nat.le_refl _)
  obtain ⟨q1, q2, q3, q4, q5, q6, q7, q8, q9, q10⟩ := l_num k (by omega)
  have hk4 : (k : Rat) * (1 / 400000) ≤ 1 / 100000 := by
    have : (k : Rat) ≤ 4 := by exact_mod_cast (show k ≤ 4 by omega)
    grind
  have dk := (B k k (Nat.le_refl _) (Nat.le_refl _) hk hk).dia rfl
  have ak := h.act k k (Nat.le_refl _) (Nat.le_refl _) hk hk
  have wk : 464 / 100 ≤ vm n L k k ∧ vm n L k k ≤ 95 / 10 := ⟨by have := ak.1; grind, by have := ak.2; grind⟩
  have off : ∀ i j, k ≤ i → k ≤ j → i < n → j < n → i ≠ j → Ab (vm n L i j) (tO k + 1 / 100000) := fun i j hi hj hin hjn hne => by
    have := (h.act i j hi hj hin hjn).add ((B i j hi hj hin hjn).off hne)
    rw [show vm n L i j - slu a (vm n L) k i j + slu a (vm n L) k i j = vm n L i j from by grind] at this
    exact this.mono (by grind)
  have f0 : ∀ i, k < i → i < n → Ab (vl (fop .quo .f32 (gm none L n i k) (gm none L n k k)) * vm n L k k - vm n L i k) (2 / 1000000) := fun i hki hi => by
    have o := off i k (by omega) (Nat.le_refl _) hi hk (by omega)
    have pos : 0 < vm n L k k := by grind
    have ne : vm n L k k ≠ 0 := by grind
    have hq : Ab (vm n L i k / vm n L k k) (52 / 100) := by
      have e1 : vm n L i k / vm n L k k * vm n L k k = vm n L i k := by grind
      obtain ⟨a1, a2⟩ := o
      exact ⟨Rat.le_of_mul_le_mul_right (c := vm n L k k) (by rw [e1]; grind) pos, Rat.le_of_mul_le_mul_right (c := vm n L k k) (by rw [e1]; grind) pos⟩
    obtain ⟨c1, c2⟩ := fv_quo (h.fv i k hi hk) (h.fv k k hk hk) ne hq (by decide +kernel)
    have c2 : Ab (vl (fop .quo .f32 (gm none L n i k) (gm none L n k k)) - vm n L i k / vm n L k k) (e32 (52 / 100)) := c2
    generalize vl (fop .quo .f32 (gm none L n i k) (gm none L n k k)) = c at *
    have e1 : e32 (52 / 100) ≤ 1 / 10000000 := by decide +kernel
    have m := (c2.mono e1).mul (show Ab (vm n L k k) 10 from ⟨by grind, by grind⟩)
    rw [show (c - vm n L i k / vm n L k k) * vm n L k k = c * vm n L k k - vm n L i k from by grind] at m
    exact m.mono (by grind)
  have g := elim_gm h.m hk
  generalize elimP n n k L = M at *
  have g1 : ∀ i j, i < n → j < n → ¬ (k < i ∧ k ≤ j) → vm n M i j = vm n L i j := fun i j hi hj hne => by
    unfold vm; rw [g i j hi hj]
    by_cases e : k < i
    · rw [if_pos e, if_pos (by omega)]
    · rw [if_neg e]
  have g2 : ∀ i, k < i → i < n → vm n M i k = vl (fop .quo .f32 (gm none L n i k) (gm none L n k k)) := fun i hki hi => by
    unfold vm; rw [g i k hi hk, if_pos hki, if_neg (by omega), if_pos rfl]
  have ss : ∀ i c, i < n → c < n → slu a (vm n M) k i c = slu a (vm n L) k i c := fun i c hi hc => slu_congr (fun t ht => g1 i t hi (by omega) (by omega)) (fun t ht => g1 t c (by omega) hc (by omega))
  refine ⟨fun i t ht hti hi => ?_, fun i j hik hij hj => ?_⟩
  · by_cases e : t = k
    · subst e
      have p2 := f0 i hti hi
      rw [ss i t hi hk, g2 i hti hi, g1 t t hk hk (by omega)]
      have := p2.add (h.act i t (by omega) (Nat.le_refl _) hi hk)
      rw [show vl (fop .quo .f32 (gm none L n i t) (gm none L n t t)) * vm n L t t - vm n L i t + (vm n L i t - slu a (vm n L) t i t) = vl (fop .quo .f32 (gm none L n i t) (gm none L n t t)) * vm n L t t - slu a (vm n L) t i t from by grind] at this
      exact this.mono (by grind)
    · rw [g1 i t hi (by omega) (by omega), g1 t t (by omega) (by omega) (by omega), slu_congr (w := vm n L) (fun s hs => g1 i s hi (by omega) (by omega)) (fun s hs => g1 s t (by omega) (by omega) (by omega))]
      exact h2.lo i t (by omega) hti hi
  · rw [g1 i j (by omega) hj (by omega), slu_congr (w := vm n L) (fun s hs => g1 i s (by omega) (by omega) (by omega)) (fun s hs => g1 s j (by omega) hj (by omega))]
    by_cases e : i = k
    · subst e
      exact (h.act i j (Nat.le_refl _) hij hk hj).mono (by grind)
    · exact h2.up i j (by omega) hij hj
theorem lu_allT {n : Nat} {a : Nat → Nat → Rat} {L : List F} (T : LTab n a) (m : Mat n n L) (fv : ∀ i j, i < n → j < n → Fv (gm none L n i j)) (ha : ∀ i j, i < n → j < n → vm n L i j = a i j) : ∃ M, runE (frStep n) 0 n (L, upTo n) = .inl (M, upTo n) ∧ LuInv n a n M ∧ LuT n a n M := by
  have h0 : LuInv n a 0 L := ⟨m, fv, ⟨fun i t h => by omega, fun i j h => by omega⟩, fun i j _ _ hi hj => by
    rw [slu_zero, ha i j hi hj]
    exact ⟨by simp; grind, by simp; grind⟩⟩
  obtain ⟨s, e, ⟨h1, h3⟩, h2⟩ := runE_all (f := frStep n) (fun k s => (LuInv n a k s.1 ∧ LuT n a k s.1) ∧ s.2 = upTo n) n 0 (L, upTo n) ⟨⟨h0, ⟨fun i t h => by omega, fun i j h => by omega⟩⟩, rfl⟩ (fun k s _ hk ⟨⟨h1, h3⟩, h2⟩ => by
    have hk : k < n := by omega
    obtain ⟨s1, s2, s3⟩ := lu_step T hk h1
    have al : (elimP n n k s.1).all fin32 = true := List.all_eq_true.2 fun x hx => by
      obtain ⟨i, j, hi, hj, rfl⟩ := mem_gm s3.m hx
      exact (s3.fv i j hi hj).fin
    refine ⟨(elimP n n k s.1, upTo n), ?_, ⟨s3, lu_fine T hk h1 h3⟩, rfl⟩
    unfold frStep
    rw [s1]
    unfold frPick
    rw [s2, cond_false, swapR_self h1.m hk, al, cond_true, h2, tradeP_self (by rw [upTo_len]; exact hk)])
  rw [Nat.zero_add] at h1 h3
  refine ⟨s.1, ?_, h1, h3⟩
  rw [e, ← h2]
theorem tr_prodT {n : Nat} {a : Nat → Nat → Rat} {M : List F} (H : LuT n a n M) {i k : Nat} (hi : i < n) (hk : k < n) : Ab (rs (fun t => pL n M i t * qU n M t k) n - a i k) (13 / 1000000) := by
  rcases Nat.lt_or_ge k i with hlt | hge
  · rw [rs_lo (i := k + 1) (by omega) fun t h1 h2 => by unfold qU; rw [if_neg (show ¬ t ≤ k by omega)]; grind]
    rw [rs_congr (g := fun t => vm n M i t * vm n M t k) fun t ht => by unfold pL qU; rw [if_pos (show t < i by omega), if_pos (show t ≤ k by omega)]]
    have := H.lo i k hk hlt hi
    unfold slu at this
    show Ab (rs (fun t => vm n M i t * vm n M t k) k + vm n M i k * vm n M k k - a i k) _
    generalize rs (fun t => vm n M i t * vm n M t k) k = S at *
    rw [show S + vm n M i k * vm n M k k - a i k = vm n M i k * vm n M k k - (a i k - S) from by grind]
    exact this
  · rw [rs_lo (i := i + 1) (by omega) fun t h1 h2 => by unfold pL; rw [if_neg (show ¬ t < i by omega), if_neg (show ¬ t = i by omega)]; grind]
    show Ab (rs (fun t => pL n M i t * qU n M t k) i + pL n M i i * qU n M i k - a i k) _
    rw [rs_congr (g := fun t => vm n M i t * vm n M t k) fun t ht => by unfold pL qU; rw [if_pos ht, if_pos (show t ≤ k by omega)]]
    have e1 : pL n M i i = 1 := by unfold pL; rw [if_neg (by omega), if_pos rfl]
    have e2 : qU n M i k = vm n M i k := by unfold qU; rw [if_pos hge]
    have := H.up i k hi hge hk
    unfold slu at this
    rw [e1, e2]
    generalize rs (fun t => vm n M i t * vm n M t k) i = S at *
    rw [show S + 1 * vm n M i k - a i k = vm n M i k - (a i k - S) from by grind]
    exact this
theorem two_fine {n : Nat} {a p q : Nat → Nat → Rat} {X Y : List F} {b : Nat → Rat} {d β e1 e2 B : Rat} (h5 : n ≤ 5) (n0 : 0 < n) (T : LTab n a) (hb : ∀ i, i < n → Ab (b i) 4)
    (hE : ∀ i k, i < n → k < n → Ab (rs (fun t => p i t * q t k) n - a i k) (13 / 1000000)) (hx : ∀ i, i < n → Ab (vl (X.getD i none)) B)
    (hF : ∀ i, i < n → Ab (rs (fun t => p i t * vl (Y.getD t none)) n - b i) e1) (hB : ∀ t, t < n → Ab (rs (fun k => q t k * vl (X.getD k none)) n - vl (Y.getD t none)) e2)
    (hd : ∀ i, i < n → Ab (p i i) d) (ho : ∀ i t, i < n → t < n → t ≠ i → Ab (p i t) β) (hβ : 0 ≤ β) (hB1 : B ≤ 11) (hsum : d * e2 + 4 * (β * e2) + e1 ≤ 289 / 1000000) :
    ∀ i, i < n → Ab (vl (X.getD i none)) (201 / 100) ∧ Ab (rs (fun k => a i k * vl (X.getD k none)) n - b i) (42 / 100000) := by
  have hn5 : (n : Rat) ≤ 5 := by exact_mod_cast h5
  have hn0 : (0 : Rat) ≤ (n : Rat) := by exact_mod_cast Nat.zero_le n
  have res : ∀ M, 0 ≤ M → M ≤ 11 → (∀ k, k < n → Ab (vl (X.getD k none)) M) → ∀ i, i < n → Ab (rs (fun k => a i k * vl (X.getD k none)) n - b i) (65 / 1000000 * M + 289 / 1000000) := fun M m0 m1 hM i hi => by
    have r := row_bound (p := p i) (g := fun t => rs (fun k => q t k * vl (X.getD k none)) n - vl (Y.getD t none)) hi h5 (hd i hi) (ho i · hi) hB hβ
    have := chain_res (p := p) (q := q) (x := fun k => vl (X.getD k none)) (y := fun t => vl (Y.getD t none)) (b := b) (e2 := fun _ => e2) (E := fun k => a i k) (fun k hk => hE i k hi hk) hM (hF i hi) hB r
    refine this.mono ?_
    have h1 : (n : Rat) * (13 / 1000000 * M) ≤ 5 * (13 / 1000000 * M) := Rat.mul_le_mul_of_nonneg_right hn5 (Rat.mul_nonneg (by decide +kernel) m0)
    grind
  have h4 : ((n - 1 : Nat) : Rat) ≤ 4 := by exact_mod_cast (show n - 1 ≤ 4 by omega)
  have x2 : ∀ k, k < n → Ab (vl (X.getD k none)) (201 / 100) := by
    refine dom (a := a) (b := b) (δ := 6) (γ := 1) (C := 4) (ρ := 3 / 1000) n0 (fun i hi => (T.dia i hi).1) (fun i k hi hk hne => T.off i k hi hk hne) (by decide +kernel) hb (fun i hi => (res 11 (by decide +kernel) (by decide +kernel) (fun k hk => (hx k hk).mono hB1) i hi).mono (by decide +kernel)) ?_ ?_
    · grind
    · grind
  exact fun i hi => ⟨x2 i hi, (res (201 / 100) (by decide +kernel) (by decide +kernel) x2 i hi).mono (by decide +kernel)⟩
theorem solve_fine {n : Nat} {a : Nat → Nat → Rat} {M b : List F} (H : TrF n a M) (HT : LuT n a n M) (T : LTab n a) (n0 : 0 < n) (hb : b.length = n) (fb : ∀ i, i < n → Fv (b.getD i none) ∧ Ab (vl (b.getD i none)) 4) :
    (∀ x ∈ upL (upH n M) n (lowL (rowH n M) b n), Fv x) ∧ (upL (upH n M) n (lowL (rowH n M) b n)).length = n ∧
    ∀ i, i < n → Ab (vl ((upL (upH n M) n (lowL (rowH n M) b n)).getD i none)) (201 / 100) ∧ Ab (rs (fun k => a i k * vl ((upL (upH n M) n (lowL (rowH n M) b n)).getD k none)) n - vl (b.getD i none)) (42 / 100000) := by
  have n5 := H.n5
  have LB1 : LowG n 4 (34 / 100) fy (23 / 10000000) (1295 / 100) 13 := ⟨by omega, fun i hi => by obtain ⟨_, h2, h3, _⟩ := fy_ok i (by omega); exact ⟨h2, by grind⟩, fun i hi => (fy_ok i (by omega)).2.2.1, fun i hi => (fy_ok i (by omega)).2.2.2, by decide +kernel, by decide +kernel, by decide +kernel, by decide +kernel, by decide +kernel, by decide +kernel⟩
  have lo := low_G (f := fun i k => gm none M n i k) (post := fun _ z => z) (dv := fun _ => 1) (c := b) (η := 0) LB1 fb (fun i k hk hi => ⟨H.fe i k hi (by omega), H.lo i k hk hi⟩) (fun i hi z hz hza => ⟨hz, hza.mono (fy_ok i (by omega)).1, by rw [show 1 * vl z - vl z = 0 from by grind]; exact ⟨by decide +kernel, by decide +kernel⟩⟩) (h := rowH n M) (fun i y L => rfl)
  have ll : (lowL (rowH n M) b n).length = n := lowL_len n
  generalize lowL (rowH n M) b n = Y at *
  have LB2 : LowG n (1295 / 100) (176 / 100) fx (81 / 10000000) (1014 / 100) 48 := ⟨by omega, fun i hi => by obtain ⟨_, h2, h3, _⟩ := fx_ok i (by omega); exact ⟨by grind, by grind⟩, fun i hi => (fx_ok i (by omega)).2.2.1, fun i hi => (fx_ok i (by omega)).2.2.2, by decide +kernel, by decide +kernel, by decide +kernel, by decide +kernel, by decide +kernel, by decide +kernel⟩
  have up := up_G (f := fun i k => gm none M n i k) (post := fun i z => fop .quo .f32 z (gm none M n i i)) (dv := fun i => vm n M i i) (c := Y) (η := 95 / 10 * e32 (1014 / 100)) LB2 ll (fun i hi => ⟨(lo i hi).1, (lo i hi).2.1.mono (fy_ok i (by omega)).2.2.1⟩) (fun i k hk hkn => ⟨H.fe i k (by omega) hkn, H.up i k hk hkn⟩) (fun i j hij z hz hza => by
    obtain ⟨h1, h2, h3, _⟩ := fx_ok j (by omega)
    obtain ⟨p1, p2, p3⟩ := post_quo (δ := 464 / 100) (Δ := 95 / 10) (bq := fx j) (H.fe i i (by omega) (by omega)) (H.dia i (by omega)).1 (H.dia i (by omega)).2 (by decide +kernel) hz hza h1 h2 (by grind)
    exact ⟨p1, p2, p3.mono (Rat.mul_le_mul_of_nonneg_left (e32_mono h3) (by decide +kernel))⟩) (h := upH n M) (fun i y L => rfl)
  have lX : (upL (upH n M) n Y).length = n := by rw [upL_len, ll]
  generalize upL (upH n M) n Y = X at *
  have up' : ∀ i, i < n → Fv (X.getD i none) ∧ Ab (vl (X.getD i none)) 11 ∧ Ab (rs (fun k => qU n M i k * vl (X.getD k none)) n - vl (Y.getD i none)) (110 / 1000000) := fun i hi => by
    obtain ⟨p1, p2, p3⟩ := up (n - 1 - i) i (by omega)
    refine ⟨p1, p2.mono (by have := (fx_ok (n - 1 - i) (by omega)).2.2.1; grind), ?_⟩
    have e : rs (fun k => qU n M i k * vl (X.getD k none)) n = vm n M i i * vl (X.getD i none) + rs (fun t => vm n M i (i + 1 + t) * vl (X.getD (i + 1 + t) none)) (n - (i + 1)) := by
      rw [rs_hi (i := i) (by omega) fun t ht => by unfold qU; rw [if_neg (show ¬ i ≤ t by omega)]; grind, show n - i = n - (i + 1) + 1 from by omega, rs_head, Nat.add_zero]
      congr 1
      · unfold qU; rw [if_pos (Nat.le_refl _)]
      · exact rs_congr fun t ht => by unfold qU; rw [if_pos (show i ≤ i + (t + 1) by omega), show i + (t + 1) = i + 1 + t from by omega]
    rw [e]
    exact p3.mono (by decide +kernel)
  have lo' : ∀ i, i < n → Ab (rs (fun t => pL n M i t * vl (Y.getD t none)) n - vl (b.getD i none)) (28 / 1000000) := fun i hi => by
    obtain ⟨p1, p2, p3⟩ := lo i hi
    have e : rs (fun t => pL n M i t * vl (Y.getD t none)) n = 1 * vl (Y.getD i none) + rs (fun t => vm n M i t * vl (Y.getD t none)) i := by
      rw [rs_lo (i := i + 1) (by omega) fun t h1 h2 => by unfold pL; rw [if_neg (show ¬ t < i by omega), if_neg (show ¬ t = i by omega)]; grind]
      show rs (fun t => pL n M i t * vl (Y.getD t none)) i + pL n M i i * vl (Y.getD i none) = _
      rw [rs_congr (g := fun t => vm n M i t * vl (Y.getD t none)) fun t ht => by unfold pL; rw [if_pos ht], show pL n M i i = 1 from by unfold pL; rw [if_neg (by omega), if_pos rfl]]
      grind
    rw [e]
    exact p3.mono (by decide +kernel)
  have pd : ∀ i t, i < n → t < n → t ≠ i → Ab (pL n M i t) (34 / 100) := fun i t hi ht hne => by
    unfold pL
    by_cases h : t < i
    · rw [if_pos h]; exact H.lo i t h hi
    · rw [if_neg h, if_neg hne]; exact ⟨by decide +kernel, by decide +kernel⟩
  have fin := two_fine (p := pL n M) (q := qU n M) (X := X) (Y := Y) (b := fun i => vl (b.getD i none)) (d := 1) (β := 34 / 100) (e1 := 28 / 1000000) (e2 := 110 / 1000000) (B := 11) n5 n0 T (fun i hi => (fb i hi).2) (fun i k hi hk => tr_prodT HT hi hk) (fun i hi => (up' i hi).2.1) lo' (fun t ht => (up' t ht).2.2) (fun i hi => by unfold pL; rw [if_neg (by omega), if_pos rfl]; exact ⟨by decide +kernel, by decide +kernel⟩) pd (by decide +kernel) (by decide +kernel) (by decide +kernel)
  refine ⟨fun x hx => ?_, lX, fin⟩
  obtain ⟨i, hi, rfl⟩ := mem_getD hx
  exact (up' i (by omega)).1
theorem sqrt_zero_nn {x : F} (h : Rv .f64 0 x) : Rv .f64 0 (fsqrt x) := by
  obtain ⟨b, s, m, a, u, rfl, e1, u0, u1, u2, _⟩ := h.read
  have hu : u = 0 := by unfold sg at u2; cases s <;> simp at u2 <;> grind
  subst hu
  have hm : m = 0 := by
    have : (m : Rat) * 2 ^ a = 0 := by rw [← u1]; simp
    rcases Rat.mul_eq_zero.1 this with h | h
    · exact_mod_cast h
    · have := p2 a; rw [h] at this; exact absurd this (by decide)
  subst hm
  have e : fsqrt (some b) = some (FloatKind.f64.format.nearest s 0 (FloatKind.f64.format.leastPlace + (a : Nat))) := by
    show FloatKind.f64.format.sqrt b = _
    unfold Ieee.Format.sqrt
    rw [e1]
    simp only [Ieee.Datum.root, if_true]
    rfl
  rw [e]
  obtain ⟨z, z1, z2, z3⟩ := rv_near (k := .f64) (s := s) (m := 0) (p := FloatKind.f64.format.leastPlace + (a : Nat)) (b := 0) (c := a) (u := 0) (M := 0) (by omega) (by simp) Rat.le_refl (by decide +kernel)
  have z4 : z ≤ 1 / 2 ^ (lpn FloatKind.f64 + 1) := by have := z3.2; grind
  have hz : sg s z = 0 := by
    have h1 : 0 ≤ sg s z := Rv.nn z1 (by
      have k : (0 : Rat) ≤ 1 / 2 ^ (lpn FloatKind.f64 + 1) := Rat.le_of_lt (one_div_pos (p2 _))
      generalize (1 : Rat) / 2 ^ (lpn FloatKind.f64 + 1) = d at *
      unfold sg; cases s <;> simp <;> grind)
    have z5 : Rv .f64 z (some (FloatKind.f64.format.word false (wrung FloatKind.f64.format (FloatKind.f64.format.nearest s 0 (FloatKind.f64.format.leastPlace + (a : Nat)))))) ∨ True := .inr trivial
    unfold sg at h1 ⊢
    cases s with
    | true => simp at h1 ⊢; grind
    | false =>
      simp at h1 ⊢
      have z1 : Rv .f64 z (some (FloatKind.f64.format.nearest false 0 (FloatKind.f64.format.leastPlace + (a : Nat)))) := by
        have := z1; unfold sg at this; simpa using this
      obtain ⟨n, _, e2⟩ := z1
      have hp := p2 (lpn .f64)
      have e3 : (1 : Rat) / 2 ^ (lpn FloatKind.f64 + 1) * 2 ^ lpn .f64 = 1 / 2 := by
        rw [rpow_add]
        generalize (2 : Rat) ^ lpn FloatKind.f64 = Z at *
        grind
      have l := Rat.mul_le_mul_of_nonneg_right z4 (Rat.le_of_lt hp)
      rw [e3, ← e2] at l
      have l0 := Rat.mul_le_mul_of_nonneg_right h1 (Rat.le_of_lt hp)
      rw [← e2, Rat.zero_mul] at l0
      have n0 : n = 0 := by
        have a1 : (0 : Int) ≤ n := by exact_mod_cast l0
        by_cases h : n = 0
        · exact h
        · exfalso
          have : ((1 : Int) : Rat) ≤ (n : Rat) := by exact_mod_cast (show 1 ≤ n by omega)
          have c1 : ((1 : Int) : Rat) = 1 := by decide +kernel
          rw [c1] at this
          grind
      rw [n0] at e2
      have e2 : z * 2 ^ lpn .f64 = 0 := by rw [← e2]; rfl
      rcases Rat.mul_eq_zero.1 e2 with h | h
      · exact h
      · rw [h] at hp; exact absurd hp (by decide)
  rw [hz] at z1
  exact z1
theorem mul_nnF {x : F} (hx : Fv x) (hb : Ab (vl x) 1) : 0 ≤ vl (fop .mul .f32 x x) := by
  have q0 : 0 ≤ vl x * vl x := by
    by_cases h : 0 ≤ vl x
    · exact Rat.mul_nonneg h h
    · have := Rat.mul_nonneg (a := -vl x) (b := -vl x) (by grind) (by grind); grind
  have q1 : vl x * vl x ≤ 1 := by have := (hb.mul hb).2; grind
  obtain ⟨z, z1, z2⟩ := hx.rv.mulh hx.rv (M := vl x * vl x) ⟨by grind, Rat.le_refl⟩ (big60 (by grind))
  rw [z1.vl]
  refine Rv.nn z1 ?_
  have := z2.1
  unfold eh at this
  have k1 : (1 : Rat) / 2 ^ (FloatKind.f32.format.fractionBits + 1) ≤ 1 := by decide +kernel
  have l := Rat.mul_le_mul_of_nonneg_left k1 q0
  generalize (1 : Rat) / 2 ^ (FloatKind.f32.format.fractionBits + 1) = c at *
  generalize (1 : Rat) / 2 ^ (lpn FloatKind.f32 + 1) = d at *
  grind
theorem add_nnF {x y : F} (hx : Fv x) (hy : Fv y) (x0 : 0 ≤ vl x) (y0 : 0 ≤ vl y) (h : vl x + vl y ≤ 1000) : Fv (fop .add .f32 x y) ∧ 0 ≤ vl (fop .add .f32 x y) := by
  have s0 : 0 ≤ vl x + vl y := by grind
  obtain ⟨z, z1, z2⟩ := hx.rv.addh hy.rv (M := vl x + vl y) ⟨by grind, Rat.le_refl⟩ (big60 (by grind))
  refine ⟨z1.fv, ?_⟩
  rw [z1.vl]
  refine Rv.nn z1 ?_
  have := z2.1
  unfold eh at this
  have k1 : (1 : Rat) / 2 ^ (FloatKind.f32.format.fractionBits + 1) ≤ 1 := by decide +kernel
  have l := Rat.mul_le_mul_of_nonneg_left k1 s0
  generalize (1 : Rat) / 2 ^ (FloatKind.f32.format.fractionBits + 1) = c at *
  generalize (1 : Rat) / 2 ^ (lpn FloatKind.f32 + 1) = d at *
  grind
theorem dot_nn {f : Nat → F} : ∀ k : Nat, k ≤ 5 → (∀ j, j < k → Fv (f j) ∧ Ab (vl (f j)) (43 / 100000)) → Fv (dotN f f k) ∧ 0 ≤ vl (dotN f f k) ∧ vl (dotN f f k) ≤ 95 / 100000000
  | 0, _, _ => ⟨fv_zero.1, by show 0 ≤ vl (some 0); rw [fv_zero.2]; exact Rat.le_refl, by show vl (some 0) ≤ _; rw [fv_zero.2]; decide +kernel⟩
  | k + 1, hk, h => by
    obtain ⟨d1, d2, d3⟩ := dot_nn k (by omega) fun j hj => h j (by omega)
    obtain ⟨f1, f2⟩ := h k (by omega)
    have e2 : dotN f f (k + 1) = fop .add .f32 (dotN f f k) (fop .mul .f32 (f k) (f k)) := by unfold dotN; rw [run_last, Nat.zero_add]; rfl
    have pf := f2.mul f2
    obtain ⟨p1, p2⟩ := fv_mul f1 f1 pf (by decide +kernel)
    have p3 := mul_nnF f1 (f2.mono (by decide +kernel))
    have pu : vl (fop .mul .f32 (f k) (f k)) ≤ 1 / 100000 := by
      have l : e32 (43 / 100000 * (43 / 100000)) ≤ 1 / 1000000 := by decide +kernel
      have := p2.2; have := pf.2; grind
    obtain ⟨a1, a2⟩ := add_nnF d1 p1 d2 p3 (by grind)
    rw [e2]
    refine ⟨a1, a2, ?_⟩
    rw [← e2]
    have pr : ∀ j, j < k + 1 → Fv (f j) ∧ Fv (f j) ∧ Ab (vl (f j) * vl (f j)) (43 / 100000 * (43 / 100000)) := fun j hj => ⟨(h j hj).1, (h j hj).1, (h j hj).2.mul (h j hj).2⟩
    have kr : ((k + 1 : Nat) : Rat) ≤ 5 := by exact_mod_cast hk
    have sm : ∀ j, j ≤ k + 1 → Ab (rs (fun t => vl (f t) * vl (f t)) j) (5 * (43 / 100000 * (43 / 100000))) := fun j hj => (rs_ab fun t ht => (pr t (by omega)).2.2).mono (by
      have : (j : Rat) ≤ 5 := by exact_mod_cast (show j ≤ 5 by omega)
      exact Rat.mul_le_mul_of_nonneg_right this (by decide +kernel))
    obtain ⟨q1, q2⟩ := dotN_near (P := 43 / 100000 * (43 / 100000)) (S := 5 * (43 / 100000 * (43 / 100000))) (e := 2 / 10000000000000) (show k + 1 ≤ 16 by omega) pr sm (by decide +kernel) (by decide +kernel) (by decide +kernel) (by decide +kernel) (by decide +kernel)
    have s5 := sm (k + 1) (Nat.le_refl _)
    have := q2.2
    have := s5.2
    grind
theorem root_small {x : F} (hx : Fv x) (h0 : 0 ≤ vl x) (h1 : vl x ≤ 95 / 100000000) : ∃ y, K26 x = some y ∧ Fv y ∧ 0 ≤ vl y ∧ vl y ≤ 99 / 100000 := by
  have e : ∀ y, fnarrow (fsqrt (fwiden x)) = some y → K26 x = some y := fun y h => by
    unfold K26 K25
    rw [olet_eq, olet_eq, obind_eq, h, obind_eq]
  by_cases hq : vl x = 0
  · have r := hx.rv.widen
    rw [hq] at r
    have r2 := sqrt_zero_nn r
    have d : Dy .f64 0 0 (fsqrt (fwiden x)) := by
      obtain ⟨n, ⟨b, hb, h1, h2, _, h3⟩, h4⟩ := r2
      have hn : n = 0 := by
        have : (n : Rat) = 0 := by rw [h4]; simp
        exact_mod_cast this
      subst hn
      exact ⟨b, hb, h1, h2, by decide, by rw [h3]; simp⟩
    obtain ⟨y, y1, y2⟩ := d.narrow (by decide) (by decide)
    have v := y2.fv
    have v2 : vl y = 0 := by rw [v.2]; simp; grind
    exact ⟨y, e y y1, v.1, by rw [v2]; exact Rat.le_refl, by rw [v2]; decide +kernel⟩
  · have e40 : (2 : Rat) ^ 40 = 1099511627776 := by decide +kernel
    have e53 : (2 : Rat) ^ 53 = 9007199254740992 := by decide +kernel
    obtain ⟨w, z, z1, w0, w1, w2⟩ := hx.rv.widen.sqrt (by grind) (by rw [e40]; grind)
    rw [e53] at w1
    -- the least number
    have q1 : 1 / 2 ^ 149 ≤ vl x := by
      obtain ⟨n, _, h4⟩ := hx.rv
      have h4 : (n : Rat) = vl x * 2 ^ 149 := h4
      have hp := p2 149
      have n1 : ((1 : Int) : Rat) ≤ (n : Rat) := by
        have : (1 : Int) ≤ n := by
          by_cases h : 1 ≤ n
          · exact h
          · exfalso
            have : (n : Rat) ≤ ((0 : Int) : Rat) := by exact_mod_cast (show n ≤ 0 by omega)
            have c0 : ((0 : Int) : Rat) = 0 := rfl
            rw [c0, h4] at this
            have := Rat.mul_pos (show 0 < vl x by grind) hp
            grind
        exact_mod_cast this
      have c1 : ((1 : Int) : Rat) = 1 := by decide +kernel
      rw [c1, h4] at n1
      exact Rat.le_of_mul_le_mul_right (c := 2 ^ 149) (by rw [div_mul_pos hp]; exact n1) hp
    have wl : 1 / 2 ^ 76 ≤ w := by
      by_cases h : 1 / 2 ^ 76 ≤ w
      · exact h
      · exfalso
        have h2 : w ≤ 1 / 2 ^ 76 := Rat.le_of_lt (Rat.not_le.1 h)
        have a := Rat.mul_le_mul_of_nonneg_left h2 w0
        have b := Rat.mul_le_mul_of_nonneg_right h2 (show (0 : Rat) ≤ 1 / 2 ^ 76 by decide +kernel)
        have c : (1 : Rat) / 2 ^ 76 * (1 / 2 ^ 76) < 1 / 2 ^ 149 * (1 - 1 / 9007199254740992) := by decide +kernel
        have d := w1.1
        have f := Rat.mul_le_mul_of_nonneg_right q1 (show (0 : Rat) ≤ 1 - 1 / 9007199254740992 by decide +kernel)
        generalize (1 : Rat) / 2 ^ 76 = u at *
        generalize (1 : Rat) / 2 ^ 149 = t at *
        grind
    have wu : w ≤ 976 / 1000000 := by
      by_cases h : w ≤ 976 / 1000000
      · exact h
      · exfalso
        have h2 : (976 : Rat) / 1000000 < w := Rat.not_le.1 h
        have a := Rat.mul_le_mul_of_nonneg_left (Rat.le_of_lt h2) w0
        have := w1.2
        grind
    have er1 : er .f64 w ≤ w * (1 / 4) := by
      unfold er
      have a : ep .f64 ≤ 1 / 8 := by decide +kernel
      have b : et .f64 ≤ 1 / 2 ^ 76 * (1 / 8) := by decide +kernel
      have a2 := Rat.mul_le_mul_of_nonneg_left a w0
      generalize (1 : Rat) / 2 ^ 76 = u at *
      grind
    have er2 : er .f64 w ≤ 1 / 1000000000 := e64_le (by grind) w0
    have zl : w * (3 / 4) ≤ z := by have := w2.1; grind
    have zu : z ≤ 977 / 1000000 := by have := w2.2; grind
    have z0 : 0 ≤ z := by have := Rat.mul_nonneg w0 (show (0 : Rat) ≤ 3 / 4 by decide +kernel); grind
    obtain ⟨y, Y, y1, y2, y3⟩ := z1.narrow (M := z) ⟨by grind, Rat.le_refl⟩ (big60 (by grind))
    have er3 : er .f32 z ≤ z := by
      unfold er
      have a : ep .f32 ≤ 1 / 8 := by decide +kernel
      have b : et .f32 ≤ 1 / 2 ^ 76 * (1 / 8) := by decide +kernel
      have a2 := Rat.mul_le_mul_of_nonneg_left a z0
      generalize (1 : Rat) / 2 ^ 76 = u at *
      grind
    have er4 := er_le z
    have er5 : e32 z ≤ 1 / 1000000000 := by unfold e32; grind
    exact ⟨Y, e Y y1, y2.fv, by rw [y2.vl]; have := y3.1; grind, by rw [y2.vl]; have := y3.2; grind⟩
theorem norm_ok {R : List F} {n : Nat} (hl : R.length = n) (n5 : n ≤ 5) (h : ∀ i, i < n → Fv (R.getD i none) ∧ Ab (vl (R.getD i none)) (43 / 100000)) : ∃ y, K27 R = some y ∧ Fv y ∧ 0 ≤ vl y ∧ vl y ≤ 99 / 100000 := by
  obtain ⟨d1, d2, d3⟩ := dot_nn (f := fun i => R.getD i none) n n5 h
  obtain ⟨y, y1, y2, y3, y4⟩ := root_small d1 d2 d3
  refine ⟨y, ?_, y2, y3, y4⟩
  unfold K27
  rw [K24_eq (Nat.le_refl _) (by omega), hl, obind_eq, y1, obind_eq]

end Go.Proofs.YtcifbefhglffhaaGreat
