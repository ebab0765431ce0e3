/- The abstract layer, part 2. -/
import Derived.ProofKit
import Derived.Test.YtfhbfpdeafpelaaAm1
set_option linter.unusedVariables false
namespace Go.AM
open Go.RowKit Go.ChangeShapes
def snapF (w : World) : Nat → Option (Array Value) := fun b => match w.heap[b]? with
 | some (.cells cs _ _) => some cs
 | _ => none
def GlobsIn (w : World) : Prop := GP (snapF w)
def snapOf (w : World) (hg : GlobsIn w) : Snap := ⟨snapF w, hg⟩
theorem snapOf_some {w : World} {hg : GlobsIn w} {b : Nat} {cs : Array Value} (h : snapOf w hg b = some cs) : ∃ T m, w.heap[b]? = some (.cells cs T m) := by
 simp only [snapOf, snapF] at h
 split at h
 ·rename_i cs' T m e; simp at h; subst h; exact ⟨T, m, e⟩
 ·cases h
theorem snapOf_wi (w : World) (hg : GlobsIn w) : WI (snapOf w hg) [] [] w := ⟨fun _ _ h => snapOf_some h, rfl, by simp, by simp, by simp⟩
theorem law_run {P : Program} {f : FuncId} {A : List AV} {vs : Array Value} {W : World} {hg : GlobsIn W} (hev : Ev P f A [] (.b true) []) (hA : VL (snapOf W hg) [] A vs.toList) : Calls P f vs W fun e w' => e = .returned (.bool true) ∧ Below W.heap.size W w' := by
 refine (hev (snapOf W hg) [] W vs (snapOf_wi W hg) hA).mono ?_
 rintro e w' ⟨v, S', μ', rfl, hv, _, hfr⟩
 simp only [V] at hv
 subst hv
 exact ⟨rfl, hfr.os, hfr.tape, hfr.output, hfr.size, fun k hk => hfr.keep k hk (fun i m hi => by simp at hi)⟩
theorem VLn {S : Snap} {μ : List Mu} : VL S μ [] [] := by simp only [VL]
theorem VLc {S : Snap} {μ : List Mu} {a : AV} {v : Value} {l : List AV} {vs : List Value} (h : V S μ a v) (k : VL S μ l vs) : VL S μ (a :: l) (v :: vs) := by simp only [VL]; exact ⟨h, k⟩
def Op1 (P : Program) (t : TypeId) (G : List AV → Prop) : Prop :=
 ∀ (H : Type) (enc : TypeId × Value → H) (w : World) (hg : GlobsIn w) (base : Nat) (spare : Nat → Bool) (held : Bool) (fuel : Nat) (cs : List Value) (x : DataW H × List MemPlace), DataW.trod enc P w base spare held fuel t cs = some x → ∃ l, G l ∧ VL (snapOf w hg) [] l cs
theorem VL.single {S : Snap} {μ : List Mu} {a : AV} {v : Value} (h : V S μ a v) : VL S μ [a] [v] := by simp only [VL]; exact ⟨h, trivial⟩
theorem VL.single_inv {S : Snap} {μ : List Mu} {a : AV} {vs : List Value} (h : VL S μ [a] vs) : ∃ v, vs = [v] ∧ V S μ a v := by
 match vs, h with
 | [], h => simp only [VL] at h
 | [v], h => simp only [VL] at h; exact ⟨v, rfl, h.1⟩
 | _ :: _ :: _, h => simp only [VL] at h; exact absurd h.2 (by simp)
theorem Op1.int {P : Program} {t : TypeId} {k : IntKind} (ht : P.underlying t = some (.int k)) : Op1 P t (fun l => ∃ n : Int, (Lit.int k n).wf = true ∧ l = [.x (.int k n)]) := by
 intro H enc w hg base spare held fuel cs x h
 obtain ⟨n, rfl, _, hw⟩ := DataW.trod_int ht h
 exact ⟨_, ⟨n, hw, rfl⟩, VL.single (by simp only [V])⟩
def FOk (k : FloatKind) (c : F) : Prop := ∃ b, FR k b c
theorem exists_list {α : Type} {Q : Nat → α → Prop} : ∀ (n : Nat), (∀ i, i < n → ∃ z, Q i z) → ∃ L : List α, L.length = n ∧ ∀ i z, L[i]? = some z → Q i z
 | 0, _ => ⟨[], rfl, by simp⟩
 | n + 1, h => by
  obtain ⟨L, h1, h2⟩ := exists_list n (fun i hi => h i (by omega))
  obtain ⟨z, hz⟩ := h n (by omega)
  refine ⟨L ++ [z], by simp [h1], fun i y hy => ?_⟩
  rcases Nat.lt_or_ge i L.length with hi | hi
  ·rw [List.getElem?_append_left hi] at hy; exact h2 i y hy
  ·rw [List.getElem?_append_right hi] at hy
   have := lt_of_getElem? hy
   simp at this
   have e : i = n := by omega
   subst e
   rw [h1] at hy
   simp at hy
   subst hy; exact hz
theorem VP.of_each {α : Type} {S : Snap} {μ : List Mu} {f : α → AV} : ∀ (L : List α) (vs : List Value), (∀ (i : Nat) (z : α), L[i]? = some z → ∃ c, vs[i]? = some c ∧ V S μ (f z) c) → VP S μ (L.map f) vs
 | [], _, _ => by simp only [List.map_nil, VP]
 | z :: L, vs, h => by
  obtain ⟨c, h1, h2⟩ := h 0 z rfl
  cases vs with
  | nil => simp at h1
  | cons v vs =>
   simp at h1
   subst h1
   simp only [List.map_cons, VP]
   exact ⟨h2, VP.of_each L vs fun i y hy => by simpa using h (i + 1) y (by simpa using hy)⟩
theorem Op1.slice {α : Type} {P : Program} {t e : TypeId} {f : α → AV} {good : α → Prop} (ht : P.underlying t = some (.slice e)) (hc : P.cellsOf e = 1) (he : Op1 P e (fun l => ∃ z, good z ∧ l = [f z])) :
  Op1 P t (fun l => ∃ L : List α, ((∀ z ∈ L, good z) ∧ L.length ≤ maxLen) ∧ l = [.sl L.length (L.map f)]) := by
 intro H enc w hg base spare held fuel cs x h
 rcases DataW.trod_slice ht h with ⟨rfl, _⟩ | ⟨a, len, cap, elems, rest, n, rfl, rfl, _, hb, hl, hm, hlen, hel, _, _⟩
 ·exact ⟨_, ⟨[], ⟨by simp, by simp⟩, rfl⟩, VL.single (by simp only [V]; exact ⟨none, 0, rfl, Nat.le_refl _, .inl rfl⟩)⟩
 ·have each : ∀ i, i < len → ∃ z, good z ∧ ∃ c, w.cell? (a.add i) = some c ∧ V (snapOf w hg) [] (f z) c := by
   intro i hi
   have h1 := hel i hi
   have h2 : ∃ y, elems[i]? = some y := getElem?_of_lt (by omega)
   obtain ⟨y, hy⟩ := h2
   rw [hy, hc, Nat.mul_one, Option.bind_eq_some_iff] at h1
   obtain ⟨cs', k1, k2⟩ := h1
   obtain ⟨l, ⟨z, hz, rfl⟩, k3⟩ := he H enc w hg base spare held n cs' y k2
   obtain ⟨c, rfl, k4⟩ := VL.single_inv k3
   exact ⟨z, hz, c, cell_of_cells?_one k1, k4⟩
  obtain ⟨L, hL, hLQ⟩ := exists_list (Q := fun i z => good z ∧ ∃ c, w.cell? (a.add i) = some c ∧ V (snapOf w hg) [] (f z) c) len each
  refine ⟨_, ⟨L, ⟨fun z hz => ?_, by omega⟩, rfl⟩, VL.single ?_⟩
  ·obtain ⟨i, hi⟩ := List.getElem?_of_mem hz
   exact (hLQ i z hi).1
  ·simp only [V]
   refine ⟨some a, cap, by rw [hL], by omega, ?_⟩
   by_cases h0 : len = 0
   ·left
    have : L = [] := List.eq_nil_of_length_eq_zero (by omega)
    rw [this]; rfl
   ·right
    obtain ⟨z, _, c, hc0, _⟩ := each 0 (by omega)
    obtain ⟨ab, ao, asp⟩ := a
    have hsp : asp = none := by
     cases asp with
     | none => rfl
     | some s => simp [World.cell?, Addr.add] at hc0; split at hc0 <;> simp_all
    subst hsp
    simp only [Addr.add_mk] at hc0 hLQ
    cases hh : w.heap[ab]? with
    | none => simp [World.cell?, hh] at hc0
    | some ob =>
     cases ob with
     | cells cs T m =>
      refine ⟨ab, ao, cs, rfl, by simp [snapOf, snapF, hh], VP.of_each L _ fun i z hz => ?_⟩
      obtain ⟨_, c', k1, k2⟩ := hLQ i z hz
      refine ⟨c', ?_, k2⟩
      simp [World.cell?, hh] at k1
      rw [List.getElem?_drop]
      simpa using k1
     | _ => simp [World.cell?, hh] at hc0
theorem open_one {H : Type} {enc : TypeId × Value → H} {P : Program} {W : World} (hg : GlobsIn W) {t : TypeId} {v : Value} {d : DataW H} {ps : List MemPlace} {α : Type} {f : α → AV} {good : α → Prop} (hcell : v.cells = #[v]) (hG : Op1 P t (fun l => ∃ z, good z ∧ l = [f z])) (h : DataW.Trod enc P W 0 (fun _ => true) true t v d ps) :
  ∃ z, good z ∧ V (snapOf W hg) [] (f z) v := by
 obtain ⟨fuel, h⟩ := h
 obtain ⟨l, ⟨z, hz, rfl⟩, h2⟩ := hG _ _ _ hg _ _ _ _ _ _ h
 rw [hcell] at h2
 obtain ⟨c, e, h3⟩ := VL.single_inv h2
 simp at e
 subst e
 exact ⟨z, hz, h3⟩
theorem cells_slice {base : Nat} {P : Program} {W : World} {t e : TypeId} {v : Value} (ht : P.underlying t = some (.slice e)) (hv : Value.okWide P W .any base t v) : v.cells = #[v] := by
 obtain ⟨a, n, c, rfl⟩ := WideShapes.okWide_slice ht hv; rfl
theorem trodAll_stays {H : Type} {enc : TypeId × Value → H} {P : Program} (hl : laidOutB P = true) {W W' : World} (hb : Below W.heap.size W W') : ∀ {ts : List TypeId} {vs : List Value} {ds : List (DataW H)} {ps : List MemPlace}, (∀ t ∈ ts, P.readableRec t = true ∧ t < P.types.size) →
  DataW.TrodAll enc P W 0 (fun _ => true) true ts vs ds ps → (∀ x ∈ ps, x.block < W.heap.size) → DataW.TrodAll enc P W' 0 (fun b => decide (b < W.heap.size)) true ts vs ds ps
 | [], [], [], _, _, h, _ => h
 | t :: ts, v :: vs, d :: ds, ps, hr, h, hlt => by
  obtain ⟨p, q, h1, h2, rfl⟩ := h
  exact ⟨p, q, Below.trod hl (hr t (by simp)).1 (hr t (by simp)).2 h1 hb (fun x hx => hlt x (by simp [hx])), trodAll_stays hl hb (fun t ht => hr t (by simp [ht])) h2 (fun x hx => hlt x (by simp [hx])), rfl⟩
 | [], [], _ :: _, _, _, h, _ => h.elim
 | [], _ :: _, _, _, _, h, _ => by cases h
 | _ :: _, [], _, _, _, h, _ => by cases h
 | _ :: _, _ :: _, [], _, _, h, _ => by cases h
theorem law_post {H : Type} {enc : TypeId × Value → H} {P : Program} {f : Func} {s : ChangeSpec} {W W' : World} {args : Array Value} {ds : List (DataW H)} {before : List MemPlace} {t : TypeId}
  (hW : DataW.Whole enc P f.params.toList s.vars false W args.toList ds [] before) (hs : s.vars = []) (hfn : s.fn H (ds ++ []) = { results := [.lit (.bool true)], args := ds }) (hr : f.resultTypes = #[t]) (ht : P.underlying t = some .bool)
  (hl : laidOutB P = true) (hp : ∀ t ∈ f.params.toList, P.readableRec t = true ∧ t < P.types.size) (hb : Below W.heap.size W W') : s.post enc P f false true false false W args (.bool true) W' := by
 have hlt : ∀ x ∈ before, x.block < W.heap.size := fun x hx => hW.lt x hx
 have hW2 := hW
 obtain ⟨p, q, hA, hV, rfl, _, _⟩ := hW
 rw [hs] at hV
 have hq : q = [] := hV
 subst hq
 refine ⟨ds, [], p ++ [], [], p, [], hW2, ?_, ?_, ?_, hb.frame _, fun h => by cases h⟩
 ·rw [hfn, hr]
  exact trodAll_mk1 (shut_bool ht true)
 ·rw [hfn]
  exact trodAll_stays hl hb hp hA (fun x hx => hlt x (by simp [hx]))
 ·rw [hs, hfn]; rfl
end Go.AM

namespace Go.AM
open Ieee
def rval (f : Format) (r : Nat) : Nat := if r < f.binade then r else (f.binade + r % f.binade) * 2 ^ (r / f.binade - 1)
theorem binade_pos (f : Format) : 0 < f.binade := Nat.two_pow_pos _
theorem rval_succ (f : Format) (r : Nat) : rval f r < rval f (r + 1) := by
 have hB := binade_pos f
 unfold rval
 by_cases h1 : r + 1 < f.binade
 ·rw [if_pos (by omega), if_pos h1]; omega
 ·by_cases h2 : r < f.binade
  ·rw [if_pos h2, if_neg h1]
   have e : r + 1 = f.binade := by omega
   rw [e, Nat.mod_self, Nat.div_self hB]
   simp; omega
  ·rw [if_neg h2, if_neg h1]
   have hq : 1 ≤ r / f.binade := (Nat.one_le_div_iff hB).2 (by omega)
   have hm := Nat.mod_lt r hB
   have hdm := Nat.div_add_mod r f.binade
   by_cases h3 : r % f.binade + 1 < f.binade
   ·have e1 : (r + 1) / f.binade = r / f.binade := by
     apply Nat.div_eq_of_lt_le
     ·rw [Nat.mul_comm]; omega
     ·rw [Nat.add_mul, Nat.one_mul, Nat.mul_comm]; omega
    have e2 : (r + 1) % f.binade = r % f.binade + 1 := by
     have := Nat.div_add_mod (r + 1) f.binade
     rw [e1] at this; omega
    rw [e1, e2]
    exact Nat.mul_lt_mul_of_pos_right (by omega) (Nat.two_pow_pos _)
   ·have e0 : r % f.binade = f.binade - 1 := by omega
    have e1 : (r + 1) / f.binade = r / f.binade + 1 := by
     apply Nat.div_eq_of_lt_le
     ·rw [Nat.add_mul, Nat.one_mul, Nat.mul_comm]; omega
     ·rw [Nat.add_mul, Nat.add_mul, Nat.one_mul, Nat.mul_comm]; omega
    have e2 : (r + 1) % f.binade = 0 := by
     have := Nat.div_add_mod (r + 1) f.binade
     rw [e1, Nat.mul_add] at this; omega
    rw [e1, e2, e0]
    obtain ⟨q, hq'⟩ : ∃ q, r / f.binade = q + 1 := ⟨r / f.binade - 1, by omega⟩
    rw [hq']
    simp only [Nat.add_sub_cancel, Nat.add_zero]
    rw [Nat.pow_succ, ← Nat.mul_assoc, Nat.mul_comm (f.binade * 2 ^ q) 2, ← Nat.mul_assoc]
    exact Nat.mul_lt_mul_of_pos_right (by omega) (Nat.two_pow_pos _)
theorem rval_mono (f : Format) {r r' : Nat} (h : r < r') : rval f r < rval f r' := by
 induction r' with
 | zero => omega
 | succ k ih =>
  rcases Nat.lt_or_ge r k with h' | h'
  ·exact Nat.lt_trans (ih h') (rval_succ f k)
  ·have : r = k := by omega
   subst this; exact rval_succ f r
theorem rval_inj (f : Format) {r r' : Nat} (h : rval f r = rval f r') : r = r' := by
 rcases Nat.lt_trichotomy r r' with h1 | h1 | h1
 ·have := rval_mono f h1; omega
 ·exact h1
 ·have := rval_mono f h1; omega
theorem rval_le (f : Format) {r r' : Nat} (h : r ≤ r') : rval f r ≤ rval f r' := by
 rcases Nat.eq_or_lt_of_le h with h | h
 ·rw [h]; exact Nat.le_refl _
 ·exact Nat.le_of_lt (rval_mono f h)
def wneg (f : Format) (w : Nat) : Bool := w / f.signWeight % 2 == 1
def wrung (f : Format) (w : Nat) : Nat := w % f.signWeight
theorem read_fin (f : Format) {w : Nat} (h : wrung f w < f.infRung) : ∃ m a, f.read w = .number (wneg f w) m (f.leastPlace + (a : Nat)) ∧ m * 2 ^ a = rval f (wrung f w) := by
 unfold Format.read rval
 unfold wrung at h
 by_cases h1 : w % f.signWeight < f.binade
 ·refine ⟨w % f.signWeight, 0, ?_, ?_⟩
  ·simp [h1, wneg]
  ·simp [wrung, h1]
 ·refine ⟨f.binade + w % f.signWeight % f.binade, w % f.signWeight / f.binade - 1, ?_, ?_⟩
  ·simp [h1, h, wneg]
  ·simp [wrung, h1]
theorem read_inf (f : Format) (hf : f.binade ≤ f.infRung) {w : Nat} (h : wrung f w = f.infRung) : f.read w = .infinity (wneg f w) := by
 unfold Format.read
 unfold wrung at h
 have hB : ¬ f.infRung < f.binade := by omega
 simp [h, hB, wneg]
theorem read_nan (f : Format) (hf : f.binade ≤ f.infRung) {w : Nat} (h : f.infRung < wrung f w) : (f.read w).isNaN = true := by
 unfold Format.read
 unfold wrung at h
 have h1 : ¬ w % f.signWeight < f.binade := by omega
 have h2 : ¬ w % f.signWeight < f.infRung := by omega
 have h3 : ¬ w % f.signWeight = f.infRung := by omega
 simp [h1, h2, h3, Datum.isNaN]
theorem not_nan (f : Format) (hf : f.binade ≤ f.infRung) {w : Nat} (h : (f.read w).isNaN = false) : wrung f w ≤ f.infRung := by
 rcases Nat.lt_or_ge f.infRung (wrung f w) with h1 | h1
 ·rw [read_nan f hf h1] at h; cases h
 ·exact h1
def sval (s : Bool) (v : Nat) : Int := if s then -(v : Int) else v
theorem compare_mul {x y k : Int} (hk : 0 < k) : compare (x * k) (y * k) = compare x y := by
 rcases Int.lt_trichotomy x y with h | h | h
 ·rw [Int.compare_eq_lt.2 h, Int.compare_eq_lt.2 (Int.mul_lt_mul_of_pos_right h hk)]
 ·rw [h]; simp
 ·rw [Int.compare_eq_gt.2 h, Int.compare_eq_gt.2 (Int.mul_lt_mul_of_pos_right h hk)]
theorem order_num (s t : Bool) (m n a b : Nat) (lp : Int) : Datum.order (.number s m (lp + a)) (.number t n (lp + b)) = some (compare (sval s (m * 2 ^ a)) (sval t (n * 2 ^ b))) := by
 simp only [Datum.order]
 congr 1
 have e1 : (lp + (a : Int) - min (lp + (a : Int)) (lp + (b : Int))).toNat = a - min a b := by omega
 have e2 : (lp + (b : Int) - min (lp + (a : Int)) (lp + (b : Int))).toNat = b - min a b := by omega
 rw [e1, e2]
 have key : ∀ (s : Bool) (m a c : Nat), c ≤ a → sval s (m * 2 ^ a) = signed s m (a - c) * ((2 ^ c : Nat) : Int) := by
  intro s m a c hc
  have : m * 2 ^ a = (m <<< (a - c)) * 2 ^ c := by
   rw [Nat.shiftLeft_eq, Nat.mul_assoc, ← Nat.pow_add]
   congr 2; omega
  unfold sval signed
  rw [this]
  cases s <;> simp [Int.neg_mul]
 rw [key s m a (min a b) (Nat.min_le_left _ _), key t n b (min a b) (Nat.min_le_right _ _), compare_mul (by exact_mod_cast Nat.two_pow_pos _)]
theorem order_fin (f : Format) {x y : Nat} (hx : wrung f x < f.infRung) (hy : wrung f y < f.infRung) : f.order x y = some (compare (sval (wneg f x) (rval f (wrung f x))) (sval (wneg f y) (rval f (wrung f y)))) := by
 obtain ⟨m, a, h1, h2⟩ := read_fin f hx
 obtain ⟨n, b, h3, h4⟩ := read_fin f hy
 unfold Format.order
 rw [h1, h3, order_num, h2, h4]
theorem FOk.some {k : FloatKind} {b : Nat} (h : FOk k (some b)) : b < 2 ^ k.format.width ∧ (k.format.read b).isNaN = false := by
 obtain ⟨_, rfl, h1, h2⟩ := h; exact ⟨h1, h2⟩
theorem fmt_ok (k : FloatKind) : k.format.binade ≤ k.format.infRung := by cases k <;> decide
theorem order_refl (f : Format) (hf : f.binade ≤ f.infRung) {x : Nat} (hx : (f.read x).isNaN = false) : f.order x x = some .eq := by
 rcases Nat.lt_or_ge (wrung f x) f.infRung with h | h
 ·rw [order_fin f h h]; simp
 ·have h1 : wrung f x = f.infRung := Nat.le_antisymm (not_nan f hf hx) h
  unfold Format.order
  rw [read_inf f hf h1]
  simp [Datum.order]
theorem feq_refl {k : FloatKind} {b : Nat} (h : FOk k (some b)) : feq k (some b) (some b) = true := by
 simp [feq, ford, order_refl k.format (fmt_ok k) h.some.2]
@[simp] theorem feq_none_l {k : FloatKind} {c : F} : feq k none c = false := rfl
@[simp] theorem feq_none_r {k : FloatKind} {c : F} : feq k c none = false := by cases c <;> rfl
theorem nearest_word (f : Format) (s : Bool) (m : Nat) (p : Int) : ∃ r, r ≤ f.infRung ∧ f.nearest s m p = f.word s r := by
 unfold Format.nearest
 split
 ·exact ⟨0, Nat.zero_le _, rfl⟩
 ·exact ⟨_, Nat.min_le_right _ _, rfl⟩
theorem wneg_word (f : Format) (s : Bool) {r : Nat} (h : r < f.signWeight) : wneg f (f.word s r) = s ∧ wrung f (f.word s r) = r := by
 have hpos : 0 < f.signWeight := Nat.two_pow_pos _
 unfold wneg wrung Format.word
 cases s
 ·simp [Nat.div_eq_of_lt h, Nat.mod_eq_of_lt h]
 ·have e1 : (f.signWeight + r) / f.signWeight = 1 := by rw [Nat.add_div_left _ hpos, Nat.div_eq_of_lt h]
  simp [e1, Nat.add_mod_left, Nat.mod_eq_of_lt h]
theorem write_neg (f : Format) {d : Datum} (h : d.isNaN = false) : wneg f (f.write d) = d.neg ∧ wrung f (f.write d) ≤ f.infRung := by
 have hi := f.infRung_lt
 cases d with
 | number s m p =>
  obtain ⟨r, h1, h2⟩ := nearest_word f s m p
  show wneg f (f.nearest s m p) = s ∧ wrung f (f.nearest s m p) ≤ f.infRung
  rw [h2]
  obtain ⟨k1, k2⟩ := wneg_word f s (r := r) (by omega)
  exact ⟨k1, by omega⟩
 | infinity s =>
  obtain ⟨k1, k2⟩ := wneg_word f s (r := f.infRung) hi
  exact ⟨k1, Nat.le_of_eq k2⟩
 | nan _ _ => cases h
theorem fwiden_ok {c : F} (h : FOk .f32 c) : FOk .f64 (fwiden c) := by
 cases c with
 | none => exact ⟨0x7FF8000000000000, by decide, by decide⟩
 | some b => exact ⟨_, encode_FR .f64 h.some.2⟩
end Go.AM

namespace Go.AM
theorem at?_of {α : Type} {l : List α} {v : Int} {x : α} (h0 : 0 ≤ v) (h : l[v.toNat]? = some x) : at? l v = some x := by
 unfold at?; rw [if_pos h0]; exact h
theorem setAt?_of {α : Type} {l : List α} {v : Int} {x : α} (h0 : 0 ≤ v) (h : v.toNat < l.length) : setAt? l v x = some (l.set v.toNat x) := by
 unfold setAt?; rw [if_pos ⟨h0, h⟩]
theorem loop_all {α : Type} {l : List α} {p : α → Bool} {step : Int → Option (LR Int Unit Bool)} (b : Bool)
  (hstep : ∀ (v : Int) (x : α), 0 ≤ v → v < l.length → l[v.toNat]? = some x → step v = if p x then some (.next (v + 1)) else some (.ret b)) (hend : step l.length = some (.out ())) :
  loopM step 0 = some (if l.all p then .inl () else .inr b) := by
 have key : ∀ (k i : Nat), k + i = l.length → loopM step (i : Int) = some (if (l.drop i).all p then .inl () else .inr b) := by
  intro k
  induction k with
  | zero =>
   intro i hi
   have : i = l.length := by omega
   subst this
   rw [loopM_out hend, List.drop_length]; simp
  | succ k ih =>
   intro i hi
   have hl : i < l.length := by omega
   have hs := hstep i l[i] (by omega) (by omega) (by simp [hl])
   rw [List.drop_eq_getElem_cons hl, List.all_cons]
   by_cases e : p l[i] = true
   ·rw [if_pos e] at hs
    rw [loopM_next hs, show ((i : Int) + 1) = ((i + 1 : Nat) : Int) by omega, ih (i + 1) (by omega), e, Bool.true_and]
   ·rw [if_neg e] at hs
    simp only [Bool.not_eq_true] at e
    rw [loopM_ret hs, e]; simp
 have := key l.length 0 (by omega)
 simpa using this
theorem wrap_succ {v : Int} {n : Nat} (h0 : 0 ≤ v) (h : v < n) (hn : n ≤ 9223372036854775807) : IntKind.i64.wrap (v + 1) = v + 1 := wrap_i64 (by omega) (by omega)
end Go.AM

namespace Go.AM
open Ieee
def fin32 (c : F) : Bool := match c with
 | none => false
 | some b => !(single.read b).isInfinity
theorem read_cases {f : Format} (hf : f.binade ≤ f.infRung) {b : Nat} (h : (f.read b).isNaN = false) : (wrung f b < f.infRung ∧ (f.read b).isInfinity = false) ∨ (wrung f b = f.infRung ∧ f.read b = .infinity (wneg f b)) := by
 rcases Nat.lt_or_ge (wrung f b) f.infRung with h1 | h1
 ·obtain ⟨m, a, e, _⟩ := read_fin f h1
  exact .inl ⟨h1, by rw [e]; rfl⟩
 ·have := Nat.le_antisymm (not_nan f hf h) h1
  exact .inr ⟨this, read_inf f hf this⟩
theorem sub_self {c : F} (h : FOk .f32 c) : feq .f32 (fop .sub .f32 c c) (some 0) = fin32 c := by
 cases c with
 | none => rfl
 | some b =>
  have hn := h.some.2
  have e : fop .sub .f32 (some b) (some b) = single.sub b b := rfl
  rw [e]
  rcases read_cases (f := single) (fmt_ok .f32) hn with ⟨h1, h2⟩ | ⟨h1, h2⟩
  ·obtain ⟨m, a, e1, _⟩ := read_fin single h1
   have : single.sub b b = some 0 := by
    unfold Format.sub
    rw [e1]
    have ht : signed (wneg single b) m 0 + signed (!wneg single b) m 0 = 0 := by
     unfold signed; cases wneg single b <;> simp <;> omega
    simp only [Datum.opposite, Datum.sum, Int.min_self, Int.sub_self, Int.toNat_zero, ht, if_true]
    simp [Format.write, Format.nearest, Format.word]
   rw [this]
   have h3 : fin32 (some b) = true := by simp [fin32, h2]
   rw [h3]; decide
  ·have : single.sub b b = none := by
    unfold Format.sub
    rw [h2]
    cases wneg single b <;> rfl
   rw [this]
   have h3 : fin32 (some b) = false := by simp [fin32, h2, Datum.isInfinity]
   rw [h3]; rfl
theorem fabs_max {c : F} (h : FOk .f32 c) (hc : c ≠ none) : flt .f64 (some 9218868437227405311) (fabs (fwiden c)) = !fin32 c := by
 cases c with
 | none => exact absurd rfl hc
 | some b =>
  have hn := h.some.2
  have hfab : fabs (fwiden (some b)) = some (double.write (single.read b) % 9223372036854775808) := rfl
  rw [hfab]
  have hmx : wrung double 9218868437227405311 < double.infRung := by decide
  have hmw : wrung double 9218868437227405311 = 9218868437227405311 := by decide
  have hnm : wneg double 9218868437227405311 = false := by decide
  rcases read_cases (f := single) (fmt_ok .f32) hn with ⟨h1, h2⟩ | ⟨h1, h2⟩
  ·obtain ⟨m, a, e1, _⟩ := read_fin single h1
   have h3 : fin32 (some b) = true := by simp [fin32, h2]
   rw [h3]
   have hw := write_neg double (d := single.read b) hn
   have hfi : (double.read (double.write (single.read b))).isInfinity = false := by
    rw [e1]; exact widen_finite (b := b) e1
   have hlt : wrung double (double.write (single.read b)) < double.infRung := by
    rcases Nat.lt_or_ge (wrung double (double.write (single.read b))) double.infRung with k | k
    ·exact k
    ·rw [read_inf double (fmt_ok .f64) (Nat.le_antisymm hw.2 k)] at hfi; cases hfi
   have hr : double.write (single.read b) % 9223372036854775808 = wrung double (double.write (single.read b)) := rfl
   rw [hr]
   generalize wrung double (double.write (single.read b)) = r at hlt
   have hrs : r < 9223372036854775808 := Nat.lt_trans hlt (by decide)
   have hwr : wrung double r = r := Nat.mod_eq_of_lt hrs
   have hwn : wneg double r = false := by
    unfold wneg
    rw [show double.signWeight = 9223372036854775808 from by decide, Nat.div_eq_of_lt hrs]; rfl
   have ho : double.order 9218868437227405311 r = some (compare (sval false (rval double 9218868437227405311)) (sval false (rval double r))) := by
    rw [order_fin double hmx (by rw [hwr]; exact hlt), hnm, hmw, hwr, hwn]
   have hle : rval double r ≤ rval double 9218868437227405311 := rval_le double (by
    have : double.infRung = 9218868437227405312 := by decide
    omega)
   have hcmp : compare (sval false (rval double 9218868437227405311)) (sval false (rval double r)) ≠ .lt := by
    intro hc'
    have := Int.compare_eq_lt.1 hc'
    simp [sval] at this
    omega
   have : flt .f64 (some 9218868437227405311) (some r) = (double.order 9218868437227405311 r == some .lt) := rfl
   rw [this, ho]
   simp [hcmp]
  ·have h3 : fin32 (some b) = false := by simp [fin32, h2, Datum.isInfinity]
   rw [h3, h2]
   cases wneg single b <;> decide
theorem loop_find {α : Type} {l : List α} {p : α → Bool} {step : Int → Option (LR Int Unit Int)}
  (hstep : ∀ (v : Int) (x : α), 0 ≤ v → v < l.length → l[v.toNat]? = some x → step v = if p x then some (.ret v) else some (.next (v + 1))) (hend : step l.length = some (.out ())) :
  ∃ r : Int, loopM step 0 = some (if l.any p then .inr r else .inl ()) ∧ 0 ≤ r := by
 have key : ∀ (k i : Nat), k + i = l.length → ∃ r : Int, loopM step (i : Int) = some (if (l.drop i).any p then .inr r else .inl ()) ∧ 0 ≤ r := by
  intro k
  induction k with
  | zero =>
   intro i hi
   have : i = l.length := by omega
   subst this
   refine ⟨0, ?_, Int.le_refl _⟩
   rw [loopM_out hend, List.drop_length]; simp
  | succ k ih =>
   intro i hi
   have hl : i < l.length := by omega
   have hs := hstep i l[i] (by omega) (by omega) (by simp [hl])
   rw [List.drop_eq_getElem_cons hl, List.any_cons]
   by_cases e : p l[i] = true
   ·rw [if_pos e] at hs
    exact ⟨i, by rw [loopM_ret hs, e]; simp, by omega⟩
   ·rw [if_neg e] at hs
    simp only [Bool.not_eq_true] at e
    obtain ⟨r, h1, h2⟩ := ih (i + 1) (by omega)
    exact ⟨r, by rw [loopM_next hs, show ((i : Int) + 1) = ((i + 1 : Nat) : Int) by omega, h1, e, Bool.false_or], h2⟩
 have := key l.length 0 (by omega)
 simpa using this
end Go.AM

namespace Go.AM
def run {σ : Type} (f : Nat → σ → σ) : Nat → Nat → σ → σ
 | _, 0, s => s
 | i, m + 1, s => run f (i + 1) m (f i s)
theorem run_zero {σ : Type} (f : Nat → σ → σ) (i : Nat) (s : σ) : run f i 0 s = s := rfl
theorem run_succ {σ : Type} (f : Nat → σ → σ) (i m : Nat) (s : σ) : run f i (m + 1) s = run f (i + 1) m (f i s) := rfl
theorem run_last {σ : Type} (f : Nat → σ → σ) : ∀ (m i : Nat) (s : σ), run f i (m + 1) s = f (i + m) (run f i m s)
 | 0, i, s => by simp [run]
 | m + 1, i, s => by
  rw [run_succ, run_last f m (i + 1) (f i s), run_succ, show i + 1 + m = i + (m + 1) by omega]
theorem run_inv {σ : Type} {f : Nat → σ → σ} (Inv : Nat → σ → Prop) : ∀ (m i : Nat) (s : σ), Inv i s → (∀ j s, i ≤ j → j < i + m → Inv j s → Inv (j + 1) (f j s)) → Inv (i + m) (run f i m s)
 | 0, i, s, h, _ => h
 | m + 1, i, s, h, hs => by
  rw [show i + (m + 1) = i + 1 + m by omega]
  exact run_inv Inv m (i + 1) (f i s) (hs i s (Nat.le_refl _) (by omega) h) fun j s h1 h2 h3 => hs j s (by omega) (by omega) h3
theorem run_congr {σ : Type} {f g : Nat → σ → σ} (Inv : Nat → σ → Prop) : ∀ (m i : Nat) (s : σ), Inv i s → (∀ j s, i ≤ j → j < i + m → Inv j s → f j s = g j s ∧ Inv (j + 1) (f j s)) → run f i m s = run g i m s
 | 0, i, s, _, _ => rfl
 | m + 1, i, s, h, hs => by
  obtain ⟨h1, h2⟩ := hs i s (Nat.le_refl _) (by omega) h
  rw [run_succ, run_succ, ← h1]
  exact run_congr Inv m (i + 1) (f i s) h2 fun j s a b c => hs j s (by omega) (by omega) c
theorem loop_run {S σ ε ρ : Type} {step : S → Option (LR S ε ρ)} (mk : Nat → σ → S) (f : Nat → σ → σ) (out : σ → ε) (Inv : Nat → σ → Prop) {lo n : Nat} (hlo : lo ≤ n) {s0 : σ} (h0 : Inv lo s0)
  (hs : ∀ i s, lo ≤ i → i < n → Inv i s → step (mk i s) = some (.next (mk (i + 1) (f i s))) ∧ Inv (i + 1) (f i s)) (he : ∀ s, Inv n s → step (mk n s) = some (.out (out s))) :
  loopM step (mk lo s0) = some (.inl (out (run f lo (n - lo) s0))) ∧ Inv n (run f lo (n - lo) s0) := by
 have key : ∀ (m i : Nat) (s : σ), i + m = n → lo ≤ i → Inv i s → loopM step (mk i s) = some (.inl (out (run f i m s))) ∧ Inv n (run f i m s) := by
  intro m
  induction m with
  | zero =>
   intro i s hi _ hI
   have : i = n := by omega
   subst this
   exact ⟨loopM_out (he s hI), hI⟩
  | succ m ih =>
   intro i s hi hl hI
   obtain ⟨h1, h2⟩ := hs i s hl (by omega) hI
   rw [loopM_next h1, run_succ]
   exact ih (i + 1) (f i s) (by omega) (by omega) h2
 exact key (n - lo) lo s0 (by omega) (Nat.le_refl _) h0
abbrev sm {α : Type} (L : List α) (C i k : Nat) (x : α) : List α := L.set (i * C + k) x
theorem at?_n {α : Type} {L : List α} {i : Nat} (d : α) (h : i < L.length) : at? L (i : Int) = some (L.getD i d) := at?_of (by omega) (by simp [List.getD, h])
theorem setAt?_n {α : Type} {L : List α} {i : Nat} (x : α) (h : i < L.length) : setAt? L (i : Int) x = some (L.set i x) := by
 rw [setAt?_of (by omega) (by simpa using h)]; rfl
end Go.AM
namespace Go.AM
end Go.AM
namespace Go.AM
end Go.AM
namespace Go.AM
end Go.AM
namespace Go.AM
end Go.AM

namespace Go.AM
open Ieee
theorem fok_none (k : FloatKind) : FOk k none := ⟨_, nan_cut 0 0 0⟩
theorem log2_mul_pow {x d : Nat} (hx : x ≠ 0) : (x * 2 ^ d).log2 = x.log2 + d := by
 have h0 : x * 2 ^ d ≠ 0 := Nat.mul_ne_zero hx (Nat.ne_of_gt (Nat.two_pow_pos d))
 rw [Nat.log2_eq_iff h0]
 have h1 := Nat.log2_self_le hx
 have h2 : x < 2 ^ (x.log2 + 1) := Nat.lt_log2_self
 constructor
 ·rw [Nat.pow_add]; exact Nat.mul_le_mul_right _ h1
 ·rw [show x.log2 + d + 1 = x.log2 + 1 + d by omega, Nat.pow_add]
  exact Nat.mul_lt_mul_of_pos_right h2 (Nat.two_pow_pos d)
theorem cut_mul (s : Bool) (x d : Nat) : Toward.even.cut s (x * 2 ^ d) d = x := by
 unfold Toward.cut
 have key : (x * 2 ^ d) / (1 <<< min d ((x * 2 ^ d).log2 + 2)) = x ∧ (x * 2 ^ d) % (1 <<< min d ((x * 2 ^ d).log2 + 2)) = 0 := by
  by_cases hx : x = 0
  ·subst hx; simp
  ·have : min d ((x * 2 ^ d).log2 + 2) = d := by rw [log2_mul_pow hx]; omega
   rw [this, Nat.one_shiftLeft]
   exact ⟨Nat.mul_div_cancel _ (Nat.two_pow_pos d), Nat.mul_mod_left _ _⟩
 dsimp only
 rw [key.1, key.2]
 have hg : 0 < 1 <<< min d ((x * 2 ^ d).log2 + 2) := by rw [Nat.one_shiftLeft]; exact Nat.two_pow_pos _
 simp only [Nat.mul_zero]
 have h1 : decide ((1 <<< min d ((x * 2 ^ d).log2 + 2)) < 0) = false := by simp
 have h2 : ((1 <<< min d ((x * 2 ^ d).log2 + 2)) == 0) = false := by simp
 rw [h1, h2]
 simp
theorem log2_lt_of {x n : Nat} (hx : x ≠ 0) (h : x < 2 ^ n) : x.log2 < n := (Nat.log2_lt hx).2 h
theorem nearest_exact (f : Format) (s : Bool) {m : Nat} {p : Int} {r b c : Nat} (hr : r ≤ f.infRung) (hp : p + (b : Int) = f.leastPlace + (c : Int)) (h : m * 2 ^ c = rval f r * 2 ^ b) : f.nearest s m p = f.word s r := by
 have hb : f.binade = 2 ^ f.fractionBits := rfl
 unfold Format.nearest
 split
 ·rename_i hm
  subst hm
  rw [Nat.zero_mul] at h
  have : rval f r = 0 := by
   rcases Nat.mul_eq_zero.1 h.symm with h | h
   ·exact h
   ·exact absurd h (Nat.ne_of_gt (Nat.two_pow_pos b))
  have h0 : rval f 0 = 0 := by simp [rval, binade_pos]
  rw [rval_inj f (this.trans h0.symm)]
 ·rename_i hm
  have hl : m.log2 + c = (rval f r).log2 + b := by
   have hr0 : rval f r ≠ 0 := by
    intro e
    rw [e, Nat.zero_mul] at h
    rcases Nat.mul_eq_zero.1 h with h | h
    ·exact hm h
    ·exact absurd h (Nat.ne_of_gt (Nat.two_pow_pos c))
   rw [← log2_mul_pow hm, ← log2_mul_pow hr0, h]
  simp only
  by_cases hsub : r < f.binade
  ·have hv : rval f r = r := by simp [rval, hsub]
   rw [hv] at h hl
   have hr0 : r ≠ 0 := by
    intro e
    rw [e, Nat.zero_mul] at h
    rcases Nat.mul_eq_zero.1 h with h | h
    ·exact hm h
    ·exact absurd h (Nat.ne_of_gt (Nat.two_pow_pos c))
   have hlog := log2_lt_of hr0 (hb ▸ hsub)
   have hlast : max (p + (m.log2 : Int) - (f.fractionBits : Int)) f.leastPlace = f.leastPlace := by omega
   rw [hlast]
   have hcut : Toward.even.cut s (m <<< (p - f.leastPlace).toNat) (f.leastPlace - p).toNat = r := by
    rcases Nat.le_total b c with hbc | hbc
    ·have e1 : (p - f.leastPlace).toNat = c - b := by omega
     have e2 : (f.leastPlace - p).toNat = 0 := by omega
     have e3 : m * 2 ^ (c - b) = r := by
      have : m * 2 ^ (c - b) * 2 ^ b = r * 2 ^ b := by rw [Nat.mul_assoc, ← Nat.pow_add, Nat.sub_add_cancel hbc]; exact h
      exact Nat.eq_of_mul_eq_mul_right (Nat.two_pow_pos b) this
     rw [e1, e2, Nat.shiftLeft_eq, e3]
     have := cut_mul s r 0
     simpa using this
    ·have e1 : (p - f.leastPlace).toNat = 0 := by omega
     have e2 : (f.leastPlace - p).toNat = b - c := by omega
     have e3 : m = r * 2 ^ (b - c) := by
      have : m * 2 ^ c = r * 2 ^ (b - c) * 2 ^ c := by rw [Nat.mul_assoc, ← Nat.pow_add, Nat.sub_add_cancel hbc]; exact h
      exact Nat.eq_of_mul_eq_mul_right (Nat.two_pow_pos c) this
     rw [e1, e2, Nat.shiftLeft_zero, e3]
     exact cut_mul s r (b - c)
   rw [hcut]
   simp [Nat.min_eq_left hr]
  ·have hv : rval f r = (f.binade + r % f.binade) * 2 ^ (r / f.binade - 1) := by simp [rval, hsub]
   have hbp := binade_pos f
   have he : 1 ≤ r / f.binade := (Nat.le_div_iff_mul_le hbp).2 (by omega)
   have hmod := Nat.mod_lt r hbp
   generalize hx : f.binade + r % f.binade = x at hv
   have hx0 : x ≠ 0 := by omega
   have hlogx : x.log2 = f.fractionBits := by
    rw [Nat.log2_eq_iff hx0, ← hb, Nat.pow_succ, ← hb]; omega
   have hvl : (rval f r).log2 = f.fractionBits + (r / f.binade - 1) := by rw [hv, log2_mul_pow hx0, hlogx]
   generalize hee : r / f.binade - 1 = e at hv hvl
   have hlast : max (p + (m.log2 : Int) - (f.fractionBits : Int)) f.leastPlace = f.leastPlace + (e : Int) := by omega
   rw [hlast]
   have hcut : Toward.even.cut s (m <<< (p - (f.leastPlace + (e : Int))).toNat) (f.leastPlace + (e : Int) - p).toNat = x := by
    rw [hv, Nat.mul_assoc, ← Nat.pow_add] at h
    rcases Nat.le_total (e + b) c with hbc | hbc
    ·have e1 : (p - (f.leastPlace + (e : Int))).toNat = c - (e + b) := by omega
     have e2 : (f.leastPlace + (e : Int) - p).toNat = 0 := by omega
     have e3 : m * 2 ^ (c - (e + b)) = x := by
      have : m * 2 ^ (c - (e + b)) * 2 ^ (e + b) = x * 2 ^ (e + b) := by rw [Nat.mul_assoc, ← Nat.pow_add, Nat.sub_add_cancel hbc]; exact h
      exact Nat.eq_of_mul_eq_mul_right (Nat.two_pow_pos _) this
     rw [e1, e2, Nat.shiftLeft_eq, e3]
     have := cut_mul s x 0
     simpa using this
    ·have e1 : (p - (f.leastPlace + (e : Int))).toNat = 0 := by omega
     have e2 : (f.leastPlace + (e : Int) - p).toNat = e + b - c := by omega
     have e3 : m = x * 2 ^ (e + b - c) := by
      have : m * 2 ^ c = x * 2 ^ (e + b - c) * 2 ^ c := by rw [Nat.mul_assoc, ← Nat.pow_add, Nat.sub_add_cancel hbc]; exact h
      exact Nat.eq_of_mul_eq_mul_right (Nat.two_pow_pos _) this
     rw [e1, e2, Nat.shiftLeft_zero, e3]
     exact cut_mul s x _
   rw [hcut]
   have e4 : (f.leastPlace + (e : Int) - f.leastPlace).toNat = e := by omega
   rw [e4]
   have e5 : e * f.binade + x = r := by
    rw [← hx, ← hee]
    have := Nat.div_add_mod r f.binade
    have h2 : (r / f.binade - 1) * f.binade + f.binade = r / f.binade * f.binade := by
     rw [← Nat.succ_mul]; congr 1; omega
    rw [Nat.mul_comm] at this
    omega
   rw [e5, Nat.min_eq_left hr]
theorem readWord (f : Format) (s : Bool) {r : Nat} (hr : r < f.infRung) : f.read (f.word s r) = if r < f.binade then .number s r f.leastPlace else .number s (f.binade + r % f.binade) (f.leastPlace + ((r / f.binade - 1 : Nat) : Int)) := by
 have h1 := f.infRung_lt
 obtain ⟨k1, k2⟩ := wneg_word f s (r := r) (by omega)
 unfold wneg at k1
 unfold wrung at k2
 unfold Format.read
 simp only [k1, k2]
 split
 ·rfl
 ·first | rfl | rw [if_pos hr]
theorem single_num {b : Nat} {s : Bool} {m : Nat} {e : Int} (h : single.read b = .number s m e) : m < 2 ^ 24 ∧ -149 ≤ e ∧ e ≤ 104 := by
 have hs : single.signWeight = 2147483648 := rfl
 have hbn : single.binade = 8388608 := rfl
 have hi : single.infRung = 2139095040 := rfl
 have hl : single.leastPlace = -149 := rfl
 simp only [Format.read, hs, hbn, hi, hl] at h
 split at h
 ·simp at h; omega
 ·split at h
  ·simp at h; omega
  ·split at h <;> simp at h
theorem widen_num {s : Bool} {m : Nat} {e : Int} (hm : m < 2 ^ 24) (h1 : -149 ≤ e) (h2 : e ≤ 104) (h0 : m ≠ 0) :
  ∃ R, double.nearest s m e = double.word s R ∧ R < double.infRung ∧ double.binade ≤ R ∧ ∀ t, double.read (double.word t R) = .number t (m * 2 ^ (52 - m.log2)) (e + (m.log2 : Int) - 52) := by
 have hlog : m.log2 < 24 := log2_lt_of h0 hm
 have hi : double.infRung = 9218868437227405312 := rfl
 have hbn : double.binade = 4503599627370496 := rfl
 have hl : double.leastPlace = -1074 := rfl
 have hf : double.fractionBits = 52 := rfl
 have hlo : 2 ^ 52 ≤ m * 2 ^ (52 - m.log2) := by
  have := Nat.mul_le_mul_right (2 ^ (52 - m.log2)) (Nat.log2_self_le h0)
  rw [← Nat.pow_add] at this
  rwa [show m.log2 + (52 - m.log2) = 52 by omega] at this
 have hhi : m * 2 ^ (52 - m.log2) < 2 ^ 53 := by
  have : m * 2 ^ (52 - m.log2) < 2 ^ (m.log2 + 1) * 2 ^ (52 - m.log2) := Nat.mul_lt_mul_of_pos_right Nat.lt_log2_self (Nat.two_pow_pos _)
  rw [← Nat.pow_add] at this
  rwa [show m.log2 + 1 + (52 - m.log2) = 53 by omega] at this
 generalize hx : m * 2 ^ (52 - m.log2) = x at hlo hhi
 have hA : ∃ A : Nat, (e + (m.log2 : Int) - 52 - -1074).toNat = A ∧ A ≤ 1149 ∧ (A : Int) = e + (m.log2 : Int) - 52 + 1074 := ⟨_, rfl, by omega, by omega⟩
 obtain ⟨A, hA1, hA2, hA3⟩ := hA
 have hR : A * 4503599627370496 + x < 9218868437227405312 := by
  have h4 : A * 4503599627370496 ≤ 1149 * 4503599627370496 := Nat.mul_le_mul_right _ hA2
  omega
 refine ⟨A * 4503599627370496 + x, ?_, by rw [hi]; exact hR, by rw [hbn]; omega, fun t => ?_⟩
 ·unfold Format.nearest
  rw [if_neg h0]
  simp only [hbn, hl, hf]
  have hlast : max (e + (m.log2 : Int) - ((52 : Nat) : Int)) (-1074) = e + (m.log2 : Int) - 52 := by omega
  rw [hlast]
  have e1 : (e - (e + (m.log2 : Int) - 52)).toNat = 52 - m.log2 := by omega
  have e2 : (e + (m.log2 : Int) - 52 - e).toNat = 0 := by omega
  rw [e1, e2, hA1, Nat.shiftLeft_eq, hx]
  have := cut_mul s x 0
  simp only [Nat.pow_zero, Nat.mul_one] at this
  rw [this, hi, Nat.min_eq_left (Nat.le_of_lt hR)]
 ·rw [readWord double t (by rw [hi]; exact hR)]
  rw [if_neg (by rw [hbn]; omega)]
  simp only [hbn, hl]
  have d1 : (A * 4503599627370496 + x) / 4503599627370496 = A + 1 := by omega
  have d2 : 4503599627370496 + (A * 4503599627370496 + x) % 4503599627370496 = x := by omega
  rw [d1, d2]
  congr 1
  omega
theorem rval_zero (f : Format) : rval f 0 = 0 := by simp [rval, binade_pos]
theorem order_zero {b : Nat} (g : wrung single b < single.infRung) : single.order b 0 = some (compare (sval (wneg single b) (rval single (wrung single b))) 0) := by
 have h0 : wrung single 0 = 0 := rfl
 rw [order_fin single g (by rw [h0]; decide), h0, rval_zero]
 rfl
end Go.AM

namespace Go.AM
open Ieee
theorem cut_le (s : Bool) (n d : Nat) : Toward.even.cut s n d ≤ n / (1 <<< min d (n.log2 + 2)) + 1 := by
 unfold Toward.cut
 dsimp only
 refine Nat.add_le_add_left ?_ _
 exact Bool.toNat_le _
theorem nearest_small (f : Format) (s : Bool) {m : Nat} {p : Int} {K : Nat} (hm : m ≠ 0) (h : p + (m.log2 : Int) ≤ f.leastPlace + (f.fractionBits : Int) + (K : Int)) (_ : (K + 2) * f.binade ≤ f.infRung) :
  ∃ r, f.nearest s m p = f.word s r ∧ r ≤ (K + 2) * f.binade := by
 have hb : f.binade = 2 ^ f.fractionBits := rfl
 unfold Format.nearest
 rw [if_neg hm]
 simp only
 generalize hl : max (p + (m.log2 : Int) - (f.fractionBits : Int)) f.leastPlace = last
 have h1 : last ≤ f.leastPlace + (K : Int) := by omega
 have h2 : p + (m.log2 : Int) - (f.fractionBits : Int) ≤ last := by omega
 have h3 : f.leastPlace ≤ last := by omega
 have hkept : Toward.even.cut s (m <<< (p - last).toNat) (last - p).toNat ≤ 2 * f.binade := by
  rw [hb]
  rcases Int.le_total last p with hle | hle
  ·have e1 : (last - p).toNat = 0 := by omega
   rw [e1, Nat.shiftLeft_eq]
   have hc := cut_mul s (m * 2 ^ (p - last).toNat) 0
   rw [Nat.pow_zero, Nat.mul_one] at hc
   rw [hc]
   have hlt : m < 2 ^ (m.log2 + 1) := Nat.lt_log2_self
   have : m * 2 ^ (p - last).toNat < 2 ^ (m.log2 + 1) * 2 ^ (p - last).toNat := Nat.mul_lt_mul_of_pos_right hlt (Nat.two_pow_pos _)
   rw [← Nat.pow_add] at this
   have h4 : 2 ^ (m.log2 + 1 + (p - last).toNat) ≤ 2 ^ (f.fractionBits + 1) := Nat.pow_le_pow_right (by decide) (by omega)
   rw [Nat.pow_succ] at h4
   omega
  ·have e1 : (p - last).toNat = 0 := by omega
   rw [e1, Nat.shiftLeft_zero]
   have hc := cut_le s m (last - p).toNat
   refine Nat.le_trans hc ?_
   rw [Nat.one_shiftLeft]
   have hlt : m < 2 ^ (m.log2 + 1) := Nat.lt_log2_self
   have hpos : 0 < 2 ^ f.fractionBits := Nat.two_pow_pos _
   rcases Nat.le_total (last - p).toNat (m.log2 + 2) with hd | hd
   ·rw [Nat.min_eq_left hd]
    have : m / 2 ^ (last - p).toNat < 2 ^ (f.fractionBits + 1) := by
     rw [Nat.div_lt_iff_lt_mul (Nat.two_pow_pos _), ← Nat.pow_add]
     exact Nat.lt_of_lt_of_le hlt (Nat.pow_le_pow_right (by decide) (by omega))
    rw [Nat.pow_succ] at this
    omega
   ·rw [Nat.min_eq_right hd]
    have : m / 2 ^ (m.log2 + 2) = 0 := Nat.div_eq_of_lt (Nat.lt_trans hlt (Nat.pow_lt_pow_right (by decide) (by omega)))
    rw [this]; omega
 have hA : (last - f.leastPlace).toNat ≤ K := by omega
 have hR : (last - f.leastPlace).toNat * f.binade + Toward.even.cut s (m <<< (p - last).toNat) (last - p).toNat ≤ (K + 2) * f.binade := by
  rw [Nat.add_mul]
  exact Nat.add_le_add (Nat.mul_le_mul_right _ hA) hkept
 exact ⟨_, rfl, Nat.le_trans (Nat.min_le_left _ _) hR⟩
theorem rootFrom_lt (n : Nat) : ∀ (t r : Nat), Datum.rootFrom n t r < r + 2 ^ t
 | 0, r => by simp [Datum.rootFrom]
 | t + 1, r => by
  unfold Datum.rootFrom
  simp only
  rw [Nat.one_shiftLeft]
  have hp : 2 ^ (t + 1) = 2 ^ t + 2 ^ t := by rw [Nat.pow_succ]; omega
  split
  ·have := rootFrom_lt n t (r + 2 ^ t); omega
  ·have := rootFrom_lt n t r; have := Nat.two_pow_pos t; omega
theorem narrow_num {c m : Nat} {e : Int} (s1 : double.read c = .number false m e) (s2 : m ≠ 0 → e + (m.log2 : Int) ≤ 64) : ∃ z, fnarrow (some c) = some z := by
 have hfn : fnarrow (some c) = if (single.read (single.write (.number false m e))).isInfinity then none else some (some (single.write (.number false m e))) := by
  have : FloatKind.f64.decode c = .number false m e := s1
  simp only [fnarrow]
  rw [this]; rfl
 rw [hfn]
 have hnot : (single.read (single.write (.number false m e))).isInfinity = false := by
  show (single.read (single.nearest false m e)).isInfinity = false
  have hbn : single.binade = 8388608 := rfl
  have hi : single.infRung = 2139095040 := rfl
  have hz : ∀ r, r < 2139095040 → (single.read (single.word false r)).isInfinity = false := by
   intro r hr
   rw [readWord single false (r := r) (by rw [hi]; exact hr)]
   split <;> rfl
  by_cases hm0 : m = 0
  ·subst hm0
   have : single.nearest false 0 e = single.word false 0 := by unfold Format.nearest; rw [if_pos rfl]
   rw [this]; exact hz 0 (by decide)
  ·obtain ⟨r, n1, n2⟩ := nearest_small single false (m := m) (p := e) (K := 190) hm0 (by
    have hl : single.leastPlace = -149 := rfl
    have hf : single.fractionBits = 23 := rfl
    have := s2 hm0
    rw [hl, hf]; omega) (by rw [hbn, hi]; decide)
   rw [hbn] at n2
   rw [n1]; exact hz r (by omega)
 rw [hnot]
 exact ⟨_, rfl⟩
theorem read_nearest {G : Nat} {Q : Int} (hG : G < 2 ^ 56) (hQ : Q ≤ 8) : ∃ m e, double.read (double.nearest false G Q) = .number false m e ∧ (m ≠ 0 → e + (m.log2 : Int) ≤ 64) := by
 have hbn : double.binade = 4503599627370496 := rfl
 have hl : double.leastPlace = -1074 := rfl
 have hi : double.infRung = 9218868437227405312 := rfl
 have hf : double.fractionBits = 52 := rfl
 have hz : ∀ r, r ≤ 1087 * 4503599627370496 → ∃ m e, double.read (double.word false r) = .number false m e ∧ (m ≠ 0 → e + (m.log2 : Int) ≤ 64) := by
  intro r n2
  rw [readWord double false (r := r) (by rw [hi]; omega)]
  split
  ·rename_i hr
   rw [hbn] at hr
   refine ⟨_, _, rfl, fun hr0 => ?_⟩
   have := log2_lt_of (n := 52) hr0 (by omega)
   rw [hl]; omega
  ·rename_i hr
   rw [hbn] at hr
   refine ⟨_, _, rfl, fun hr0 => ?_⟩
   have := log2_lt_of (n := 53) hr0 (by rw [hbn]; omega)
   rw [hl, hbn] at *
   have hd : r / 4503599627370496 ≤ 1087 := by omega
   omega
 by_cases hG0 : G = 0
 ·subst hG0
  have : double.nearest false 0 Q = double.word false 0 := by unfold Format.nearest; rw [if_pos rfl]
  rw [this]; exact hz 0 (by omega)
 ·have hGl : G.log2 < 56 := log2_lt_of hG0 hG
  obtain ⟨r, n1, n2⟩ := nearest_small double false (m := G) (p := Q) (K := 1085) hG0 (by rw [hl, hf]; omega) (by rw [hbn, hi]; decide)
  rw [hbn] at n2
  rw [n1]; exact hz r n2
theorem root_pos {M : Nat} {P : Int} (h0 : M ≠ 0) (hl : M.log2 = 52) (hP : P ≤ 75) : ∃ G Q, Datum.root 54 (.number false M P) = some (.number false G Q) ∧ G < 2 ^ 56 ∧ Q ≤ 8 := by
 unfold Datum.root
 dsimp only
 rw [if_neg h0, if_neg (by decide), hl]
 have hmod : ((P - ((2 * 54 - 52 : Nat) : Int)) % 2).toNat ≤ 1 := by omega
 generalize hmore : 2 * 54 - 52 + ((P - ((2 * 54 - 52 : Nat) : Int)) % 2).toNat = more
 have hmore2 : 56 ≤ more ∧ more ≤ 57 := by omega
 have hlogn : (M <<< more).log2 / 2 + 1 = 55 := by
  rw [Nat.shiftLeft_eq, log2_mul_pow h0, hl]; omega
 rw [hlogn]
 have hwh := rootFrom_lt (M <<< more) 55 0
 generalize Datum.rootFrom (M <<< more) 55 0 = W at hwh
 have hbit : (W * W != M <<< more).toNat ≤ 1 := Bool.toNat_le _
 exact ⟨_, _, rfl, by omega, by omega⟩
def rootN (y : F) : F := (fnarrow (fsqrt (fwiden y))).getD none
theorem root_narrow {y : F} (h : FOk .f32 y) : fnarrow (fsqrt (fwiden y)) = some (rootN y) := by
 have key : ∃ z, fnarrow (fsqrt (fwiden y)) = some z := by
  cases y with
  | none => exact ⟨none, rfl⟩
  | some b =>
   have hn := h.some.2
   have hw : fwiden (some b) = some (double.write (single.read b)) := rfl
   have hsq : ∀ R, fsqrt (some R) = ((double.read R).root 54).map double.write := fun _ => rfl
   rw [hw, hsq]
   rcases read_cases (f := single) (fmt_ok .f32) hn with ⟨g1, g2⟩ | ⟨g1, g2⟩
   ·obtain ⟨m, a, e1, e2⟩ := read_fin single g1
    rw [e1]
    by_cases h0 : m = 0
    ·subst h0
     have e3 : double.write (.number (wneg single b) 0 (single.leastPlace + (a : Int))) = double.word (wneg single b) 0 := by
      show double.nearest _ 0 _ = _
      unfold Format.nearest; rw [if_pos rfl]
     rw [e3]
     cases wneg single b <;> exact ⟨_, rfl⟩
    ·obtain ⟨k1, k2, k3⟩ := single_num e1
     obtain ⟨R, r1, r2, r3, r4⟩ := widen_num (s := wneg single b) k1 k2 k3 h0
     have e3 : double.write (.number (wneg single b) m (single.leastPlace + (a : Int))) = double.word (wneg single b) R := r1
     rw [e3, r4]
     have hlog : m.log2 < 24 := log2_lt_of h0 k1
     generalize hM : m * 2 ^ (52 - m.log2) = M
     have hM0 : M ≠ 0 := by rw [← hM]; exact Nat.mul_ne_zero h0 (Nat.ne_of_gt (Nat.two_pow_pos _))
     have hMl : M.log2 = 52 := by rw [← hM, log2_mul_pow h0]; omega
     generalize hP : single.leastPlace + (a : Int) + (m.log2 : Int) - 52 = P
     have hP1 : P ≤ 75 := by omega
     cases hs : wneg single b with
     | true =>
      have : Datum.root 54 (.number true M P) = none := by
       unfold Datum.root
       dsimp only
       rw [if_neg hM0, if_pos rfl]
      rw [this]; exact ⟨none, rfl⟩
     | false =>
      obtain ⟨G, Q, q1, q2, q3⟩ := root_pos hM0 hMl hP1
      rw [q1]
      obtain ⟨m', e', s1, s2⟩ := read_nearest q2 q3
      exact narrow_num (c := double.nearest false G Q) s1 s2
   ·rw [g2]
    cases wneg single b <;> exact ⟨_, rfl⟩
 obtain ⟨z, hz⟩ := key
 unfold rootN
 rw [hz]; rfl
end Go.AM

namespace Go.AM
open Ieee
def lpn (k : FloatKind) : Nat := match k with | .f32 => 149 | .f64 => 1074
def dgn (k : FloatKind) : Nat := match k with | .f32 => 24 | .f64 => 53
def topn (k : FloatKind) : Nat := match k with | .f32 => 277 | .f64 => 2098
theorem lpn_eq (k : FloatKind) : k.format.leastPlace = -((lpn k : Nat) : Int) := by cases k <;> decide
theorem dgn_eq (k : FloatKind) : 2 ^ dgn k = 2 * k.format.binade := by cases k <;> decide
theorem topn_eq (k : FloatKind) : rval k.format k.format.infRung = 2 ^ topn k := by cases k <;> decide +kernel
theorem dg_top (k : FloatKind) : dgn k + lpn k < topn k := by cases k <;> decide
theorem rung_high (f : Format) {e q : Nat} (h1 : f.binade ≤ q) (h2 : q < 2 * f.binade) : rval f ((e + 1) * f.binade + (q - f.binade)) = q * 2 ^ e := by
 have hB := binade_pos f
 have hlt : q - f.binade < f.binade := by omega
 have hge : ¬ (e + 1) * f.binade + (q - f.binade) < f.binade := by
  rw [Nat.add_mul, Nat.one_mul]; omega
 unfold rval
 rw [if_neg hge]
 have m1 : ((e + 1) * f.binade + (q - f.binade)) % f.binade = q - f.binade := by
  rw [Nat.add_comm, Nat.add_mul_mod_self_right, Nat.mod_eq_of_lt hlt]
 have d1 : ((e + 1) * f.binade + (q - f.binade)) / f.binade = e + 1 := by
  rw [Nat.add_comm, Nat.add_mul_div_right _ _ hB, Nat.div_eq_of_lt hlt, Nat.zero_add]
 rw [m1, d1, show f.binade + (q - f.binade) = q from by omega, Nat.add_sub_cancel]
theorem rep (f : Format) : ∀ (t m : Nat), m < 2 * f.binade → ∃ r, rval f r = m * 2 ^ t
 | t, m, h => by
  by_cases h1 : f.binade ≤ m
  ·exact ⟨_, rung_high f h1 h⟩
  ·match t with
   | 0 => exact ⟨m, by unfold rval; rw [if_pos (by omega)]; simp⟩
   | t + 1 =>
    obtain ⟨r, hr⟩ := rep f t (2 * m) (by omega)
    exact ⟨r, by rw [hr, Nat.pow_succ, Nat.mul_comm 2 m, Nat.mul_assoc, Nat.mul_comm 2]⟩
theorem lt_inf {k : FloatKind} {r : Nat} (h : rval k.format r < 2 ^ topn k) : r < k.format.infRung := by
 rcases Nat.lt_or_ge r k.format.infRung with h1 | h1
 ·exact h1
 ·have := rval_le k.format h1
  rw [topn_eq] at this; omega
def fval (k : FloatKind) (b : Nat) : Int := sval (wneg k.format b) (rval k.format (wrung k.format b))
def Dy (k : FloatKind) (s : Nat) (n : Int) (x : F) : Prop := ∃ b, x = some b ∧ b < 2 ^ k.format.width ∧ wrung k.format b < k.format.infRung ∧ s ≤ lpn k ∧ fval k b = n * ((2 ^ (lpn k - s) : Nat) : Int)
theorem sval_natAbs (s : Bool) (v : Nat) : (sval s v).natAbs = v := by cases s <;> simp [sval]
theorem sval_of {n : Int} {sg : Bool} (h : n ≠ 0 → sg = decide (n < 0)) : sval sg n.natAbs = n := by
 by_cases hn : n = 0
 ·subst hn; cases sg <;> rfl
 ·rw [h hn]
  by_cases h0 : n < 0
  ·rw [decide_eq_true h0]; simp only [sval, if_true]; omega
  ·rw [decide_eq_false h0]; simp only [sval]; simp; omega
theorem Dy.word {k : FloatKind} {s : Nat} {n : Int} {sg : Bool} {r : Nat} (hs : s ≤ lpn k) (hr : rval k.format r = n.natAbs * 2 ^ (lpn k - s)) (hn : n.natAbs < 2 ^ dgn k) (h : n ≠ 0 → sg = decide (n < 0)) : Dy k s n (some (k.format.word sg r)) := by
 have hlt : r < k.format.infRung := by
  refine lt_inf ?_
  rw [hr]
  refine Nat.lt_of_lt_of_le (Nat.mul_lt_mul_of_pos_right hn (Nat.two_pow_pos _)) ?_
  rw [← Nat.pow_add]
  exact Nat.pow_le_pow_right (by decide) (by have := dg_top k; omega)
 have hi := k.format.infRung_lt
 obtain ⟨k1, k2⟩ := wneg_word k.format sg (r := r) (by omega)
 refine ⟨_, rfl, k.format.word_lt sg (by omega), by rw [k2]; exact hlt, hs, ?_⟩
 unfold fval
 rw [k1, k2, hr]
 have := sval_of h
 unfold sval at this ⊢
 cases sg
 ·simp at this ⊢; rw [this]
 ·simp at this ⊢; rw [← Int.neg_mul, this]
theorem sval_signed (s : Bool) (m a c : Nat) (hc : c ≤ a) : sval s (m * 2 ^ a) = signed s m (a - c) * ((2 ^ c : Nat) : Int) := by
 have : m * 2 ^ a = (m <<< (a - c)) * 2 ^ c := by
  rw [Nat.shiftLeft_eq, Nat.mul_assoc, ← Nat.pow_add]
  congr 2; omega
 unfold sval signed
 rw [this]
 cases s <;> simp [Int.neg_mul]
theorem sum_num (f : Format) {s t : Bool} {m n a b r : Nat} (hr : r ≤ f.infRung) (h : rval f r = (sval s (m * 2 ^ a) + sval t (n * 2 ^ b)).natAbs) :
  ∃ sg, (sval s (m * 2 ^ a) + sval t (n * 2 ^ b) ≠ 0 → sg = decide (sval s (m * 2 ^ a) + sval t (n * 2 ^ b) < 0)) ∧ (Datum.sum (.number s m (f.leastPlace + a)) (.number t n (f.leastPlace + b))).map f.write = some (f.word sg r) := by
 simp only [Datum.sum]
 have e1 : (f.leastPlace + (a : Int) - min (f.leastPlace + (a : Int)) (f.leastPlace + (b : Int))).toNat = a - min a b := by omega
 have e2 : (f.leastPlace + (b : Int) - min (f.leastPlace + (a : Int)) (f.leastPlace + (b : Int))).toNat = b - min a b := by omega
 have e3 : min (f.leastPlace + (a : Int)) (f.leastPlace + (b : Int)) = f.leastPlace + ((min a b : Nat) : Int) := by omega
 rw [e1, e2, e3]
 rw [sval_signed s m a (min a b) (Nat.min_le_left _ _), sval_signed t n b (min a b) (Nat.min_le_right _ _), ← Int.add_mul] at h ⊢
 generalize signed s m (a - min a b) + signed t n (b - min a b) = total at h ⊢
 have hp := Nat.two_pow_pos (min a b)
 have hpi : (0 : Int) < ((2 ^ min a b : Nat) : Int) := by omega
 refine ⟨if total = 0 then s && t else decide (total < 0), fun hne => ?_, ?_⟩
 ·have h0 : total ≠ 0 := fun e => hne (by rw [e, Int.zero_mul])
  rw [if_neg h0]
  by_cases hl : total < 0
  ·rw [decide_eq_true hl, decide_eq_true (Int.mul_neg_of_neg_of_pos hl hpi)]
  ·rw [decide_eq_false hl, decide_eq_false]
   have := Int.mul_nonneg (show (0 : Int) ≤ total by omega) (show (0 : Int) ≤ ((2 ^ min a b : Nat) : Int) by omega)
   omega
 ·simp only [Option.map_some]
  congr 1
  refine nearest_exact f _ hr (b := 0) (c := min a b) (by omega) ?_
  rw [h, Int.natAbs_mul]; simp
theorem mul_num (f : Format) {L : Nat} (hL : f.leastPlace = -(L : Int)) {s t : Bool} {m n a b r : Nat} (hr : r ≤ f.infRung) (h : rval f r * 2 ^ L = (m * 2 ^ a) * (n * 2 ^ b)) :
  (Datum.product (.number s m (f.leastPlace + a)) (.number t n (f.leastPlace + b))).map f.write = some (f.word (s ^^ t) r) := by
 simp only [Datum.product, Option.map_some]
 congr 1
 refine nearest_exact f _ hr (b := L) (c := a + b) (by rw [hL]; omega) ?_
 rw [h, Nat.pow_add]
 rw [Nat.mul_mul_mul_comm]
theorem Dy.fok {k : FloatKind} {s : Nat} {n : Int} {x : F} (h : Dy k s n x) : FOk k x := by
 obtain ⟨b, rfl, h1, h2, _⟩ := h
 obtain ⟨m, a, e, _⟩ := read_fin k.format h2
 exact ⟨b, rfl, h1, by rw [e]; rfl⟩
theorem Dy.add {k : FloatKind} {s : Nat} {n m : Int} {x y : F} (hx : Dy k s n x) (hy : Dy k s m y) (h : (n + m).natAbs < 2 ^ dgn k) : Dy k s (n + m) (fop .add k x y) := by
 obtain ⟨b, rfl, h1, h2, hs, h3⟩ := hx
 obtain ⟨c, rfl, g1, g2, _, g3⟩ := hy
 obtain ⟨p, a, e1, e2⟩ := read_fin k.format h2
 obtain ⟨q, d, e3, e4⟩ := read_fin k.format g2
 unfold fval at h3 g3
 rw [← e2] at h3
 rw [← e4] at g3
 obtain ⟨r, hr⟩ := rep k.format (lpn k - s) (n + m).natAbs (by rw [← dgn_eq]; exact h)
 have hsum : sval (wneg k.format b) (p * 2 ^ a) + sval (wneg k.format c) (q * 2 ^ d) = (n + m) * ((2 ^ (lpn k - s) : Nat) : Int) := by rw [h3, g3, Int.add_mul]
 have hlt : r < k.format.infRung := by
  refine lt_inf ?_
  rw [hr]
  refine Nat.lt_of_lt_of_le (Nat.mul_lt_mul_of_pos_right h (Nat.two_pow_pos _)) ?_
  rw [← Nat.pow_add]
  exact Nat.pow_le_pow_right (by decide) (by have := dg_top k; omega)
 obtain ⟨sg, k1, k2⟩ := sum_num k.format (s := wneg k.format b) (t := wneg k.format c) (m := p) (n := q) (a := a) (b := d) (r := r) (by omega) (by rw [hsum, hr, Int.natAbs_mul]; simp)
 have e : fop .add k (some b) (some c) = some (k.format.word sg r) := by
  show k.format.add b c = _
  unfold Format.add
  rw [e1, e3]; exact k2
 rw [e]
 refine Dy.word hs hr h fun hne => ?_
 have hp : (0 : Int) < ((2 ^ (lpn k - s) : Nat) : Int) := by have := Nat.two_pow_pos (lpn k - s); omega
 rw [hsum] at k1
 rw [k1 (Int.mul_ne_zero hne (by omega))]
 by_cases hl : n + m < 0
 ·rw [decide_eq_true hl, decide_eq_true (Int.mul_neg_of_neg_of_pos hl hp)]
 ·rw [decide_eq_false hl, decide_eq_false]
  have := Int.mul_nonneg (show (0 : Int) ≤ n + m by omega) (show (0 : Int) ≤ ((2 ^ (lpn k - s) : Nat) : Int) by omega)
  omega
theorem sval_not (s : Bool) (v : Nat) : sval (!s) v = -(sval s v) := by cases s <;> simp [sval]
theorem sval_sign {s : Bool} {v : Nat} {n p : Int} (hp : 0 < p) (h : sval s v = n * p) (hn : n ≠ 0) : s = decide (n < 0) := by
 cases s
 ·refine (decide_eq_false fun h0 => ?_).symm
  have := Int.mul_neg_of_neg_of_pos h0 hp
  simp only [sval] at h
  simp at h; omega
 ·refine (decide_eq_true ?_).symm
  rcases Int.lt_or_le n 0 with h0 | h0
  ·exact h0
  ·exfalso
   have := Int.mul_pos (show 0 < n by omega) hp
   simp only [sval] at h
   simp at h; omega
theorem Dy.mul {k : FloatKind} {s t : Nat} {n m : Int} {x y : F} (hx : Dy k s n x) (hy : Dy k t m y) (hst : s + t ≤ lpn k) (h : (n * m).natAbs < 2 ^ dgn k) : Dy k (s + t) (n * m) (fop .mul k x y) := by
 obtain ⟨b, rfl, h1, h2, hs, h3⟩ := hx
 obtain ⟨c, rfl, g1, g2, ht, g3⟩ := hy
 obtain ⟨p, a, e1, e2⟩ := read_fin k.format h2
 obtain ⟨q, d, e3, e4⟩ := read_fin k.format g2
 unfold fval at h3 g3
 rw [← e2] at h3
 rw [← e4] at g3
 obtain ⟨r, hr⟩ := rep k.format (lpn k - (s + t)) (n * m).natAbs (by rw [← dgn_eq]; exact h)
 have hlt : r < k.format.infRung := by
  refine lt_inf ?_
  rw [hr]
  refine Nat.lt_of_lt_of_le (Nat.mul_lt_mul_of_pos_right h (Nat.two_pow_pos _)) ?_
  rw [← Nat.pow_add]
  exact Nat.pow_le_pow_right (by decide) (by have := dg_top k; omega)
 have n1 : p * 2 ^ a = n.natAbs * 2 ^ (lpn k - s) := by
  have := congrArg Int.natAbs h3
  rw [sval_natAbs, Int.natAbs_mul] at this
  simpa using this
 have n2 : q * 2 ^ d = m.natAbs * 2 ^ (lpn k - t) := by
  have := congrArg Int.natAbs g3
  rw [sval_natAbs, Int.natAbs_mul] at this
  simpa using this
 have e : fop .mul k (some b) (some c) = some (k.format.word (wneg k.format b ^^ wneg k.format c) r) := by
  show k.format.mul b c = _
  unfold Format.mul
  rw [e1, e3]
  refine mul_num k.format (lpn_eq k) (by omega) ?_
  rw [hr, n1, n2, Int.natAbs_mul, Nat.mul_assoc, ← Nat.pow_add, Nat.mul_mul_mul_comm, ← Nat.pow_add]
  congr 2; omega
 rw [e]
 refine Dy.word hst hr h fun hne => ?_
 have hp1 : (0 : Int) < ((2 ^ (lpn k - s) : Nat) : Int) := by have := Nat.two_pow_pos (lpn k - s); omega
 have hp2 : (0 : Int) < ((2 ^ (lpn k - t) : Nat) : Int) := by have := Nat.two_pow_pos (lpn k - t); omega
 have hn0 : n ≠ 0 := fun e => hne (by rw [e, Int.zero_mul])
 have hm0 : m ≠ 0 := fun e => hne (by rw [e, Int.mul_zero])
 rw [sval_sign hp1 h3 hn0, sval_sign hp2 g3 hm0]
 rcases Int.lt_or_gt_of_ne hn0 with u | u <;> rcases Int.lt_or_gt_of_ne hm0 with v | v
 ·have := Int.mul_pos_of_neg_of_neg u v
  rw [decide_eq_true u, decide_eq_true v, decide_eq_false (by omega)]; rfl
 ·have := Int.mul_neg_of_neg_of_pos u v
  rw [decide_eq_true u, decide_eq_false (by omega), decide_eq_true this]; rfl
 ·have := Int.mul_neg_of_pos_of_neg u v
  rw [decide_eq_false (by omega), decide_eq_true v, decide_eq_true this]; rfl
 ·have := Int.mul_pos u v
  rw [decide_eq_false (by omega), decide_eq_false (by omega), decide_eq_false (by omega)]; rfl
theorem Dy.ord {k : FloatKind} {s : Nat} {n m : Int} {x y : F} (hx : Dy k s n x) (hy : Dy k s m y) : ford k x y = some (compare n m) := by
 obtain ⟨b, rfl, h1, h2, hs, h3⟩ := hx
 obtain ⟨c, rfl, g1, g2, _, g3⟩ := hy
 show k.format.order b c = _
 rw [order_fin k.format h2 g2]
 unfold fval at h3 g3
 rw [h3, g3, compare_mul (by have := Nat.two_pow_pos (lpn k - s); omega)]
theorem Dy.feq {k : FloatKind} {s : Nat} {n m : Int} {x y : F} (hx : Dy k s n x) (hy : Dy k s m y) : feq k x y = decide (n = m) := by
 unfold AM.feq
 rw [hx.ord hy]
 rcases Int.lt_trichotomy n m with h | h | h
 ·rw [Int.compare_eq_lt.2 h, decide_eq_false (by omega)]; rfl
 ·rw [Int.compare_eq_eq.2 h, decide_eq_true h]; rfl
 ·rw [Int.compare_eq_gt.2 h, decide_eq_false (by omega)]; rfl
theorem Dy.flt {k : FloatKind} {s : Nat} {n m : Int} {x y : F} (hx : Dy k s n x) (hy : Dy k s m y) : flt k x y = decide (n < m) := by
 unfold AM.flt
 rw [hx.ord hy]
 rcases Int.lt_trichotomy n m with h | h | h
 ·rw [Int.compare_eq_lt.2 h, decide_eq_true h]; rfl
 ·rw [Int.compare_eq_eq.2 h, decide_eq_false (by omega)]; rfl
 ·rw [Int.compare_eq_gt.2 h, decide_eq_false (by omega)]; rfl
theorem Dy.fle {k : FloatKind} {s : Nat} {n m : Int} {x y : F} (hx : Dy k s n x) (hy : Dy k s m y) : fle k x y = decide (n ≤ m) := by
 unfold AM.fle
 rw [hx.ord hy]
 rcases Int.lt_trichotomy n m with h | h | h
 ·rw [Int.compare_eq_lt.2 h, decide_eq_true (by omega)]; rfl
 ·rw [Int.compare_eq_eq.2 h, decide_eq_true (by omega)]; rfl
 ·rw [Int.compare_eq_gt.2 h, decide_eq_false (by omega)]; rfl
theorem Dy.scale {k : FloatKind} {s : Nat} {n : Int} {x : F} (h : Dy k s n x) {t : Nat} (ht : s + t ≤ lpn k) : Dy k (s + t) (n * ((2 ^ t : Nat) : Int)) x := by
 obtain ⟨b, rfl, h1, h2, hs, h3⟩ := h
 refine ⟨b, rfl, h1, h2, ht, ?_⟩
 rw [h3, Int.mul_assoc]
 congr 1
 have : 2 ^ (lpn k - s) = 2 ^ t * 2 ^ (lpn k - (s + t)) := by rw [← Nat.pow_add]; congr 1; omega
 rw [this]; simp
theorem Dy.zero (k : FloatKind) {s : Nat} (hs : s ≤ lpn k) : Dy k s 0 (some 0) := by
 have e : (0 : Nat) = k.format.word false 0 := rfl
 rw [e]
 exact Dy.word hs (by rw [rval_zero]; simp) (Nat.two_pow_pos _) fun h => absurd rfl h
theorem Dy.int {k : FloatKind} {n : Int} (h : n.natAbs < 2 ^ dgn k) : Dy k 0 n (fint k n) := by
 obtain ⟨r, hr⟩ := rep k.format (lpn k) n.natAbs (by rw [← dgn_eq]; exact h)
 have hlt : r < k.format.infRung := by
  refine lt_inf ?_
  rw [hr]
  refine Nat.lt_of_lt_of_le (Nat.mul_lt_mul_of_pos_right h (Nat.two_pow_pos _)) ?_
  rw [← Nat.pow_add]
  exact Nat.pow_le_pow_right (by decide) (by have := dg_top k; omega)
 have e : fint k n = some (k.format.word (decide (n < 0)) r) := by
  unfold fint
  congr 1
  show k.format.nearest (decide (n < 0)) n.natAbs 0 = _
  refine nearest_exact k.format _ (by omega) (b := 0) (c := lpn k) (by rw [lpn_eq]; omega) ?_
  rw [hr]; simp
 rw [e]
 exact Dy.word (by omega) hr h fun _ => rfl
theorem Dy.word' {k : FloatKind} {s : Nat} {n : Int} {sg : Bool} {r : Nat} (hs : s ≤ lpn k) (hr : rval k.format r = n.natAbs * 2 ^ (lpn k - s)) (hlt : r < k.format.infRung) (h : n ≠ 0 → sg = decide (n < 0)) : Dy k s n (some (k.format.word sg r)) := by
 have hi := k.format.infRung_lt
 obtain ⟨k1, k2⟩ := wneg_word k.format sg (r := r) (by omega)
 refine ⟨_, rfl, k.format.word_lt sg (by omega), by rw [k2]; exact hlt, hs, ?_⟩
 unfold fval
 rw [k1, k2, hr]
 have := sval_of h
 unfold sval at this ⊢
 cases sg
 ·simp at this ⊢; rw [this]
 ·simp at this ⊢; rw [← Int.neg_mul, this]
theorem rval_split (f : Format) (r : Nat) : ∃ q e, rval f r = q * 2 ^ e ∧ q < 2 * f.binade := by
 have hB := binade_pos f
 unfold rval
 split
 ·exact ⟨r, 0, by simp, by omega⟩
 ·exact ⟨_, _, rfl, by have := Nat.mod_lt r hB; omega⟩
theorem quo_num (f : Format) {L : Nat} (hL : f.leastPlace = -(L : Int)) {s t : Bool} {m n a b r : Nat} (hn : n ≠ 0) (hr : r ≤ f.infRung) (h : rval f r * (n * 2 ^ b) = (m * 2 ^ a) * 2 ^ L) :
  (Datum.quotient (f.fractionBits + 2) (.number s m (f.leastPlace + a)) (.number t n (f.leastPlace + b))).map f.write = some (f.word (s ^^ t) r) := by
 have hdvd : (m * 2 ^ (f.fractionBits + 2 + n.log2 - m.log2)) % n = 0 := by
  by_cases hm : m = 0
  ·subst hm; simp
  obtain ⟨q, e, hq, hq2⟩ := rval_split f r
  rw [hq] at h
  have hqn : q * n * 2 ^ (e + b) = m * 2 ^ (a + L) := by
   rw [Nat.pow_add, Nat.pow_add, ← Nat.mul_assoc m, ← h, Nat.mul_mul_mul_comm]
  have hq0 : q ≠ 0 := by
   intro e0
   rw [e0, Nat.zero_mul, Nat.zero_mul] at hqn
   rcases Nat.mul_eq_zero.1 hqn.symm with h0 | h0
   ·exact hm h0
   ·exact absurd h0 (Nat.ne_of_gt (Nat.two_pow_pos _))
  by_cases hc : a + L ≤ e + b
  ·have e1 : 2 ^ (e + b) = 2 ^ (e + b - (a + L)) * 2 ^ (a + L) := by rw [← Nat.pow_add]; congr 1; omega
   rw [e1, ← Nat.mul_assoc] at hqn
   have := Nat.eq_of_mul_eq_mul_right (Nat.two_pow_pos (a + L)) hqn
   rw [← this, Nat.mul_right_comm q n, Nat.mul_right_comm _ n]
   exact Nat.mul_mod_left _ _
  ·have e1 : 2 ^ (a + L) = 2 ^ (a + L - (e + b)) * 2 ^ (e + b) := by rw [← Nat.pow_add]; congr 1; omega
   rw [e1, ← Nat.mul_assoc] at hqn
   have hqd := Nat.eq_of_mul_eq_mul_right (Nat.two_pow_pos (e + b)) hqn
   generalize hd : a + L - (e + b) = d at hqd
   have hlog : m.log2 + d = (q * n).log2 := by rw [hqd, log2_mul_pow hm]
   have hn1 : n < 2 ^ (n.log2 + 1) := (Nat.log2_lt hn).1 (Nat.lt_succ_self _)
   have hb2 : q < 2 ^ (f.fractionBits + 1) := by
    rw [Nat.pow_succ, Nat.mul_comm]; exact hq2
   have hlt : (q * n).log2 < f.fractionBits + 1 + (n.log2 + 1) := by
    refine (Nat.log2_lt (Nat.mul_ne_zero hq0 hn)).2 ?_
    rw [Nat.pow_add]
    exact Nat.mul_lt_mul'' hb2 hn1
   have hmore : 2 ^ (f.fractionBits + 2 + n.log2 - m.log2) = 2 ^ d * 2 ^ (f.fractionBits + 2 + n.log2 - m.log2 - d) := by rw [← Nat.pow_add]; congr 1; omega
   rw [hmore, ← Nat.mul_assoc, ← hqd, Nat.mul_right_comm]
   exact Nat.mul_mod_left _ _
 have e3 : ∀ more : Nat, (f.leastPlace + (a : Int)) - (f.leastPlace + (b : Int)) - (more : Int) - 1 + ((b + more + 1 : Nat) : Int) = f.leastPlace + ((a + L : Nat) : Int) := by intro more; rw [hL]; omega
 simp only [Datum.quotient, hn, if_false, Option.map_some]
 generalize hmo : f.fractionBits + 2 + n.log2 - m.log2 = more at *
 rw [Nat.shiftLeft_eq]
 congr 1
 rw [hdvd]
 refine nearest_exact f _ hr (b := b + more + 1) (c := a + L) (e3 more) ?_
 have hQ : n * (m * 2 ^ more / n) = m * 2 ^ more := Nat.mul_div_cancel' (Nat.dvd_of_mod_eq_zero hdvd)
 generalize m * 2 ^ more / n = Q at hQ
 have : n * ((2 * Q + (0 != 0 : Bool).toNat) * 2 ^ (a + L)) = n * (rval f r * 2 ^ (b + more + 1)) := by
  show n * ((2 * Q + 0) * 2 ^ (a + L)) = _
  have h2 : rval f r * (n * 2 ^ b) * (2 ^ more * 2) = m * 2 ^ a * 2 ^ L * (2 ^ more * 2) := by rw [h]
  rw [Nat.pow_add 2 a L, Nat.pow_add 2 (b + more) 1, Nat.pow_add 2 b more, Nat.pow_one]
  have l : n * ((2 * Q + 0) * (2 ^ a * 2 ^ L)) = n * Q * (2 ^ a * 2 ^ L * 2) := by
   rw [Nat.add_zero]; simp only [Nat.mul_comm, Nat.mul_assoc]
  rw [l, hQ]
  have l2 : m * 2 ^ more * (2 ^ a * 2 ^ L * 2) = m * 2 ^ a * 2 ^ L * (2 ^ more * 2) := by simp only [Nat.mul_comm, Nat.mul_left_comm, Nat.mul_assoc]
  rw [l2, ← h2]
  simp only [Nat.mul_comm, Nat.mul_left_comm, Nat.mul_assoc]
 exact Nat.eq_of_mul_eq_mul_left (Nat.pos_of_ne_zero hn) this
theorem Dy.quo {k : FloatKind} {s t : Nat} {q m : Int} {x y : F} (hx : Dy k s (q * m) x) (hy : Dy k t m y) (hm : m ≠ 0) (hst : t ≤ s) (h : q.natAbs < 2 ^ dgn k) : Dy k (s - t) q (fop .quo k x y) := by
 obtain ⟨b, rfl, h1, h2, hs, h3⟩ := hx
 obtain ⟨c, rfl, g1, g2, ht, g3⟩ := hy
 obtain ⟨p, a, e1, e2⟩ := read_fin k.format h2
 obtain ⟨w, d, e3, e4⟩ := read_fin k.format g2
 unfold fval at h3 g3
 rw [← e2] at h3
 rw [← e4] at g3
 obtain ⟨r, hr⟩ := rep k.format (lpn k - (s - t)) q.natAbs (by rw [← dgn_eq]; exact h)
 have hlt : r < k.format.infRung := by
  refine lt_inf ?_
  rw [hr]
  refine Nat.lt_of_lt_of_le (Nat.mul_lt_mul_of_pos_right h (Nat.two_pow_pos _)) ?_
  rw [← Nat.pow_add]
  exact Nat.pow_le_pow_right (by decide) (by have := dg_top k; omega)
 have n1 : p * 2 ^ a = (q.natAbs * m.natAbs) * 2 ^ (lpn k - s) := by
  have := congrArg Int.natAbs h3
  rw [sval_natAbs, Int.natAbs_mul, Int.natAbs_mul] at this
  simpa using this
 have n2 : w * 2 ^ d = m.natAbs * 2 ^ (lpn k - t) := by
  have := congrArg Int.natAbs g3
  rw [sval_natAbs, Int.natAbs_mul] at this
  simpa using this
 have hw : w ≠ 0 := by
  intro e0
  rw [e0, Nat.zero_mul] at n2
  have := Nat.mul_pos (show 0 < m.natAbs by omega) (Nat.two_pow_pos (lpn k - t))
  omega
 have e : fop .quo k (some b) (some c) = some (k.format.word (wneg k.format b ^^ wneg k.format c) r) := by
  show k.format.div b c = _
  unfold Format.div
  rw [e1, e3]
  refine quo_num k.format (lpn_eq k) hw (by omega) ?_
  rw [hr, n1, n2, Nat.mul_mul_mul_comm, ← Nat.pow_add, Nat.mul_assoc (q.natAbs * m.natAbs), ← Nat.pow_add]
  congr 2; omega
 rw [e]
 refine Dy.word (by omega) hr h fun hne => ?_
 have hp1 : (0 : Int) < ((2 ^ (lpn k - s) : Nat) : Int) := by have := Nat.two_pow_pos (lpn k - s); omega
 have hp2 : (0 : Int) < ((2 ^ (lpn k - t) : Nat) : Int) := by have := Nat.two_pow_pos (lpn k - t); omega
 rw [sval_sign hp1 h3 (Int.mul_ne_zero hne hm), sval_sign hp2 g3 hm]
 rcases Int.lt_or_gt_of_ne hne with u | u <;> rcases Int.lt_or_gt_of_ne hm with v | v
 ·have := Int.mul_pos_of_neg_of_neg u v
  rw [decide_eq_false (by omega), decide_eq_true v, decide_eq_true u]; rfl
 ·have := Int.mul_neg_of_neg_of_pos u v
  rw [decide_eq_true this, decide_eq_false (by omega), decide_eq_true u]; rfl
 ·have := Int.mul_neg_of_pos_of_neg u v
  rw [decide_eq_true this, decide_eq_true v, decide_eq_false (by omega)]; rfl
 ·have := Int.mul_pos u v
  rw [decide_eq_false (by omega), decide_eq_false (by omega), decide_eq_false (by omega)]; rfl
theorem Dy.widen {s : Nat} {n : Int} {x : F} (hx : Dy .f32 s n x) : Dy .f64 s n (fwiden x) := by
 obtain ⟨b, rfl, h1, h2, hs, h3⟩ := hx
 have hs : s ≤ 149 := hs
 have h2 : wrung single b < single.infRung := h2
 obtain ⟨p, a, e1, e2⟩ := read_fin single h2
 unfold fval at h3
 have h3 : sval (wneg single b) (rval single (wrung single b)) = n * ((2 ^ (149 - s) : Nat) : Int) := h3
 rw [← e2] at h3
 have n1 : p * 2 ^ a = n.natAbs * 2 ^ (149 - s) := by
  have := congrArg Int.natAbs h3
  rw [sval_natAbs, Int.natAbs_mul] at this
  simpa using this
 obtain ⟨hp, _, _⟩ := single_num e1
 obtain ⟨G, hG⟩ : ∃ G : Nat, G = 925 := ⟨925, rfl⟩
 obtain ⟨r, hr⟩ := rep double (a + G) p (by have e5 : (2 * double.binade) = 2 ^ 53 := (by decide); have e6 : (2 : Nat) ^ 24 < 2 ^ 53 := (by decide); omega)
 have hrn : rval double r = n.natAbs * 2 ^ (1074 - s) := by
  rw [hr, Nat.pow_add, ← Nat.mul_assoc, n1, Nat.mul_assoc, ← Nat.pow_add]
  congr 2; omega
 have hlt : r < double.infRung := by
  refine lt_inf (k := .f64) ?_
  show rval double r < 2 ^ topn .f64
  rw [hr, Nat.pow_add, ← Nat.mul_assoc, e2]
  have t1 : rval single (wrung single b) < 2 ^ topn .f32 := by
   exact (topn_eq .f32) ▸ rval_mono single h2
  refine Nat.lt_of_lt_of_le (Nat.mul_lt_mul_of_pos_right t1 (Nat.two_pow_pos _)) ?_
  rw [← Nat.pow_add]
  exact Nat.pow_le_pow_right (by decide) (by show 277 + G ≤ 2098; omega)
 have e : fwiden (some b) = some (double.word (wneg single b) r) := by
  show some (double.write (single.read b)) = _
  rw [e1]
  congr 1
  refine nearest_exact double _ (by omega) (b := 0) (c := a + G) ?_ (by rw [hr]; simp)
  show (single.leastPlace + (a : Int)) + ((0 : Nat) : Int) = double.leastPlace + ((a + G : Nat) : Int)
  rw [show single.leastPlace = -149 from by decide, show double.leastPlace = -1074 from by decide]; omega
 rw [e]
 refine Dy.word' (k := .f64) (show s ≤ 1074 by omega) hrn hlt fun hne => sval_sign ?_ h3 hne
 have := Nat.two_pow_pos (149 - s); omega
theorem Dy.fin {s : Nat} {n : Int} {x : F} (h : Dy .f32 s n x) : fin32 x = true := by
 obtain ⟨b, rfl, _, h2, _⟩ := h
 obtain ⟨m, a, e, _⟩ := read_fin _ h2
 have e' : Ieee.single.read b = _ := e
 show (!(Ieee.single.read b).isInfinity) = true
 rw [e']; rfl
end Go.AM

namespace Go.AM
open Ieee
end Go.AM

set_option linter.unusedVariables false
namespace Go.AM
open Ieee
theorem cut_near (s : Bool) (n d : Nat) : 2 * (Toward.even.cut s n d * 2 ^ d) ≤ 2 * n + 2 ^ d ∧ 2 * n ≤ 2 * (Toward.even.cut s n d * 2 ^ d) + 2 ^ d := by
 unfold Toward.cut
 dsimp only
 have hlt : n < 2 ^ (n.log2 + 1) := Nat.lt_log2_self
 rcases Nat.le_total d (n.log2 + 2) with hd | hd
 ·rw [Nat.min_eq_left hd, Nat.one_shiftLeft]
  have hp := Nat.two_pow_pos d
  have hdm := Nat.div_add_mod n (2 ^ d)
  have hr := Nat.mod_lt n hp
  generalize n / 2 ^ d = q at *
  generalize n % 2 ^ d = r at *
  generalize 2 ^ d = g at *
  rw [Nat.mul_comm g q] at hdm
  by_cases h1 : g < 2 * r
  ·have : (decide (g < 2 * r) || (g == 2 * r && q % 2 == 1)).toNat = 1 := by simp [h1]
   rw [this, Nat.add_mul, Nat.one_mul]
   omega
  ·by_cases h2 : (g == 2 * r && q % 2 == 1) = true
   ·have h3 : g = 2 * r := by simp at h2; exact h2.1
    have : (decide (g < 2 * r) || (g == 2 * r && q % 2 == 1)).toNat = 1 := by rw [h2]; simp
    rw [this, Nat.add_mul, Nat.one_mul]
    omega
   ·have : (decide (g < 2 * r) || (g == 2 * r && q % 2 == 1)).toNat = 0 := by simp [h1, h2]
    rw [this, Nat.add_zero]
    omega
 ·rw [Nat.min_eq_right hd, Nat.one_shiftLeft]
  have h4 : 2 ^ (n.log2 + 2) = 2 * 2 ^ (n.log2 + 1) := by rw [Nat.pow_succ]; omega
  have h5 : 2 ^ (n.log2 + 2) ≤ 2 ^ d := Nat.pow_le_pow_right (by decide) hd
  have h6 : n / 2 ^ (n.log2 + 2) = 0 := Nat.div_eq_of_lt (by omega)
  have h7 : n % 2 ^ (n.log2 + 2) = n := Nat.mod_eq_of_lt (by omega)
  have h8 : (decide (2 ^ (n.log2 + 2) < 2 * n) || (2 ^ (n.log2 + 2) == 2 * n && 0 % 2 == 1)).toNat = 0 := by
   have : ¬ 2 ^ (n.log2 + 2) < 2 * n := by omega
   simp [this]
  rw [h6, h7, h8]
  simp only [Nat.add_zero, Nat.zero_mul, Nat.mul_zero]
  omega
theorem rval_rung (f : Format) {A q : Nat} (h : A = 0 ∨ f.binade ≤ q) (h2 : q ≤ 2 * f.binade) : rval f (A * f.binade + q) = q * 2 ^ A := by
 rcases Nat.lt_or_ge q f.binade with h1 | h1
 ·rcases h with rfl | h
  ·rw [Nat.zero_mul, Nat.zero_add]
   unfold rval
   rw [if_pos h1]; simp
  ·omega
 ·rcases Nat.lt_or_ge q (2 * f.binade) with h3 | h3
  ·have := rung_high f (e := A) h1 h3
   rw [← this]
   congr 1
   rw [Nat.add_mul]; omega
  ·have e : q = 2 * f.binade := by omega
   have := rung_high f (e := A + 1) (q := f.binade) (Nat.le_refl _) (by have := binade_pos f; omega)
   subst e
   rw [show A * f.binade + 2 * f.binade = (A + 1 + 1) * f.binade + (f.binade - f.binade) from by rw [Nat.add_mul, Nat.add_mul]; omega, this, Nat.pow_succ, Nat.mul_assoc, Nat.mul_comm 2]
   simp [Nat.mul_comm, Nat.mul_assoc]
theorem nearest_near (f : Format) (s : Bool) {m : Nat} {p : Int} {b c K : Nat} (hm : m ≠ 0) (hp : p + (b : Int) = f.leastPlace + (c : Int)) (h : p + (m.log2 : Int) ≤ f.leastPlace + (f.fractionBits : Int) + (K : Int)) (hK : (K + 2) * f.binade < f.infRung) :
  ∃ r E, f.nearest s m p = f.word s r ∧ r < f.infRung ∧ (2 * E ≤ 2 ^ b ∨ 2 ^ (f.fractionBits + 1) * E ≤ m * 2 ^ c) ∧ rval f r * 2 ^ b ≤ m * 2 ^ c + E ∧ m * 2 ^ c ≤ rval f r * 2 ^ b + E := by
 have hB : f.binade = 2 ^ f.fractionBits := rfl
 obtain ⟨r0, e0, l0⟩ := nearest_small f s hm h (Nat.le_of_lt hK)
 have hw : ∀ x y : Nat, f.word s x = f.word s y → x = y := fun x y h => by
  unfold Format.word at h
  cases s <;> simp at h <;> omega
 unfold Format.nearest at e0
 rw [if_neg hm] at e0
 simp only at e0
 have e0' := hw _ _ e0
 unfold Format.nearest
 rw [if_neg hm]
 simp only
 generalize hl : max (p + (m.log2 : Int) - (f.fractionBits : Int)) f.leastPlace = last at *
 obtain ⟨A, hA⟩ : ∃ A : Nat, last = f.leastPlace + A := ⟨(last - f.leastPlace).toNat, by omega⟩
 have hA' : (last - f.leastPlace).toNat = A := by omega
 rw [hA'] at e0' ⊢
 have hlog : m < 2 ^ (m.log2 + 1) := Nat.lt_log2_self
 have hlog2 : 2 ^ m.log2 ≤ m := Nat.log2_self_le hm
 rcases (by omega : last ≤ p ∨ p < last) with hle | hle
 ·-- nothing is dropped
  have e1 : (last - p).toNat = 0 := by omega
  obtain ⟨t, ht⟩ : ∃ t : Nat, p = last + t := ⟨(p - last).toNat, by omega⟩
  have e2 : (p - last).toNat = t := by omega
  have hc := cut_mul s (m * 2 ^ t) 0
  rw [Nat.pow_zero, Nat.mul_one] at hc
  rw [e1, e2, Nat.shiftLeft_eq, hc] at e0' ⊢
  have hk2 : m * 2 ^ t < 2 * f.binade := by
   rw [hB, show 2 * 2 ^ f.fractionBits = 2 ^ (f.fractionBits + 1) from by rw [Nat.pow_succ]; omega]
   have : m * 2 ^ t < 2 ^ (m.log2 + 1) * 2 ^ t := Nat.mul_lt_mul_of_pos_right hlog (Nat.two_pow_pos _)
   rw [← Nat.pow_add] at this
   exact Nat.lt_of_lt_of_le this (Nat.pow_le_pow_right (by decide) (by omega))
  have hk1 : A = 0 ∨ f.binade ≤ m * 2 ^ t := by
   rcases Nat.eq_zero_or_pos A with h0 | h0
   ·exact .inl h0
   ·refine .inr ?_
    rw [hB]
    have : 2 ^ m.log2 * 2 ^ t ≤ m * 2 ^ t := Nat.mul_le_mul_right _ hlog2
    rw [← Nat.pow_add] at this
    exact Nat.le_trans (Nat.pow_le_pow_right (by decide) (by omega)) this
  have hv := rval_rung f hk1 (Nat.le_of_lt hk2)
  have hlt : A * f.binade + m * 2 ^ t < f.infRung := by
   rcases Nat.lt_or_ge (A * f.binade + m * 2 ^ t) f.infRung with h' | h'
   ·exact h'
   ·rw [Nat.min_eq_right h'] at e0'; omega
  refine ⟨A * f.binade + m * 2 ^ t, 0, by rw [Nat.min_eq_left (Nat.le_of_lt hlt)], hlt, .inl (Nat.zero_le _), ?_⟩
  rw [hv, Nat.mul_assoc, Nat.mul_assoc, ← Nat.pow_add, ← Nat.pow_add, show t + (A + b) = c from by omega]
  omega
 ·obtain ⟨d, hd⟩ : ∃ d : Nat, last = p + (d + 1 : Nat) := ⟨(last - p).toNat - 1, by omega⟩
  have e1 : (last - p).toNat = d + 1 := by omega
  have e2 : (p - last).toNat = 0 := by omega
  rw [e1, e2, Nat.shiftLeft_zero] at e0' ⊢
  obtain ⟨n1, n2⟩ := cut_near s m (d + 1)
  generalize Toward.even.cut s m (d + 1) = q at *
  have hp1 := Nat.two_pow_pos (d + 1)
  have hk2 : q ≤ 2 * f.binade := by
   have : m < 2 ^ (f.fractionBits + 1) * 2 ^ (d + 1) := by
    rw [← Nat.pow_add]
    exact Nat.lt_of_lt_of_le hlog (Nat.pow_le_pow_right (by decide) (by omega))
   rw [Nat.pow_succ, ← hB] at this
   have h9 : 2 * (q * 2 ^ (d + 1)) < (4 * f.binade + 1) * 2 ^ (d + 1) := by
    rw [Nat.add_mul, Nat.one_mul]
    have : 2 * (f.binade * 2 * 2 ^ (d + 1)) = 4 * f.binade * 2 ^ (d + 1) := by rw [← Nat.mul_assoc, ← Nat.mul_assoc]; congr 1; omega
    omega
   rw [← Nat.mul_assoc] at h9
   have := Nat.lt_of_mul_lt_mul_right h9
   omega
  have hk1 : A = 0 ∨ f.binade ≤ q := by
   rcases Nat.eq_zero_or_pos A with h0 | h0
   ·exact .inl h0
   ·refine .inr ?_
    have hl2 : m.log2 = f.fractionBits + (d + 1) := by omega
    have h9 : 2 ^ f.fractionBits * 2 ^ (d + 1) ≤ m := by rw [← Nat.pow_add, ← hl2]; exact hlog2
    rw [← hB] at h9
    have h10 : 2 * f.binade * 2 ^ (d + 1) < (2 * q + 2) * 2 ^ (d + 1) := by
     rw [Nat.add_mul, Nat.mul_assoc, Nat.mul_assoc]
     omega
    have := Nat.lt_of_mul_lt_mul_right h10
    omega
  have hv := rval_rung f hk1 hk2
  have hlt : A * f.binade + q < f.infRung := by
   rcases Nat.lt_or_ge (A * f.binade + q) f.infRung with h' | h'
   ·exact h'
   ·rw [Nat.min_eq_right h'] at e0'; omega
  have hE : 2 * (2 ^ d * 2 ^ c) = 2 ^ (d + 1) * 2 ^ c := by rw [Nat.pow_succ]; simp [Nat.mul_comm, Nat.mul_left_comm]
  have hvb : rval f (A * f.binade + q) * 2 ^ b = q * 2 ^ (d + 1) * 2 ^ c := by
   rw [hv, Nat.mul_assoc, Nat.mul_assoc, ← Nat.pow_add, ← Nat.pow_add, show A + b = d + 1 + c from by omega]
  refine ⟨A * f.binade + q, 2 ^ d * 2 ^ c, by rw [Nat.min_eq_left (Nat.le_of_lt hlt)], hlt, ?_, ?_, ?_⟩
  ·rcases Nat.eq_zero_or_pos A with h0 | h0
   ·refine .inl ?_
    rw [hE, ← Nat.pow_add, show d + 1 + c = b from by omega]
    exact Nat.le_refl _
   ·refine .inr ?_
    have hl2 : m.log2 = f.fractionBits + (d + 1) := by omega
    rw [← Nat.mul_assoc, ← Nat.pow_add, show f.fractionBits + 1 + d = m.log2 from by omega]
    exact Nat.mul_le_mul_right _ hlog2
  ·rw [hvb]
   have hD : 2 ^ (d + 1) = 2 * 2 ^ d := by rw [Nat.pow_succ]; omega
   have := Nat.mul_le_mul_right (2 ^ c) (show q * 2 ^ (d + 1) ≤ m + 2 ^ d by omega)
   rw [Nat.add_mul] at this
   exact this
  ·rw [hvb]
   have hD : 2 ^ (d + 1) = 2 * 2 ^ d := by rw [Nat.pow_succ]; omega
   have := Nat.mul_le_mul_right (2 ^ c) (show m ≤ q * 2 ^ (d + 1) + 2 ^ d by omega)
   rw [Nat.add_mul] at this
   exact this
def Ab (x e : Rat) : Prop := -e ≤ x ∧ x ≤ e
def sg (s : Bool) (x : Rat) : Rat := if s then -x else x
def ep (k : FloatKind) : Rat := 1 / 2 ^ (k.format.fractionBits)
def et (k : FloatKind) : Rat := 1 / 2 ^ (lpn k)
def Rv (k : FloatKind) (q : Rat) (x : F) : Prop := ∃ n : Int, Dy k (lpn k) n x ∧ (n : Rat) = q * 2 ^ lpn k
theorem p2 (n : Nat) : (0 : Rat) < 2 ^ n := Rat.pow_pos (by decide)
theorem rpow_add (a b : Nat) : (2 : Rat) ^ (a + b) = 2 ^ a * 2 ^ b := by grind
theorem div_mul_pos {a c : Rat} (h : 0 < c) : a / c * c = a := by grind
theorem div_nonneg {a c : Rat} (h : 0 < c) (ha : 0 ≤ a) : 0 ≤ a / c := Rat.le_of_mul_le_mul_right (c := c) (by rw [div_mul_pos h]; grind) h
theorem one_div_pos {c : Rat} (h : 0 < c) : 0 < 1 / c := Rat.lt_of_mul_lt_mul_right (c := c) (by rw [div_mul_pos h]; grind) (by grind)
theorem Ab.mono {x e f : Rat} (h : Ab x e) (hf : e ≤ f) : Ab x f := ⟨by have := h.1; grind, by have := h.2; grind⟩
theorem Ab.nonneg {x e : Rat} (h : Ab x e) : 0 ≤ e := by have := h.1; have := h.2; grind
theorem Ab.add {x y e f : Rat} (h : Ab x e) (g : Ab y f) : Ab (x + y) (e + f) := ⟨by have := h.1; have := g.1; grind, by have := h.2; have := g.2; grind⟩
theorem Ab.sub {x y e f : Rat} (h : Ab x e) (g : Ab y f) : Ab (x - y) (e + f) := ⟨by have := h.1; have := g.2; grind, by have := h.2; have := g.1; grind⟩
theorem Ab.neg {x e : Rat} (h : Ab x e) : Ab (-x) e := ⟨by have := h.2; grind, by have := h.1; grind⟩
theorem Ab.mul {x y e f : Rat} (h : Ab x e) (g : Ab y f) : Ab (x * y) (e * f) := by
 obtain ⟨h1, h2⟩ := h
 obtain ⟨g1, g2⟩ := g
 have a := Rat.mul_nonneg (show 0 ≤ e - x by grind) (show 0 ≤ f - y by grind)
 have b := Rat.mul_nonneg (show 0 ≤ e - x by grind) (show 0 ≤ f + y by grind)
 have c := Rat.mul_nonneg (show 0 ≤ e + x by grind) (show 0 ≤ f - y by grind)
 have d := Rat.mul_nonneg (show 0 ≤ e + x by grind) (show 0 ≤ f + y by grind)
 exact ⟨by grind, by grind⟩
theorem Ab.sg {s : Bool} {x e : Rat} (h : Ab x e) : Ab (sg s x) e := by
 unfold AM.sg
 cases s
 ·exact h
 ·exact h.neg
theorem sg_sub (s : Bool) (x y : Rat) : sg s x - sg s y = sg s (x - y) := by unfold sg; cases s <;> grind
theorem sg_mul (s t : Bool) (x y : Rat) : sg s x * sg t y = sg (s ^^ t) (x * y) := by unfold sg; cases s <;> cases t <;> simp <;> grind
theorem sg_zero (s : Bool) : sg s 0 = 0 := by unfold sg; cases s <;> simp
theorem Rv.fok {k : FloatKind} {q : Rat} {x : F} (h : Rv k q x) : FOk k x := by obtain ⟨n, h, _⟩ := h; exact h.fok
theorem Rv.of_dy {k : FloatKind} {s : Nat} {n : Int} {x : F} (h : Dy k s n x) : Rv k ((n : Rat) / 2 ^ s) x := by
 have hs : s ≤ lpn k := by obtain ⟨_, _, _, _, hs, _⟩ := h; exact hs
 have h2 := h.scale (t := lpn k - s) (by omega)
 rw [show s + (lpn k - s) = lpn k from by omega] at h2
 refine ⟨_, h2, ?_⟩
 have e : (2 : Rat) ^ lpn k = 2 ^ s * 2 ^ (lpn k - s) := by rw [← rpow_add, show s + (lpn k - s) = lpn k from by omega]
 have := p2 s
 rw [e]
 push_cast
 grind
theorem Rv.uniq {k : FloatKind} {q r : Rat} {x : F} (h : Rv k q x) (g : Rv k r x) : q = r := by
 obtain ⟨n, h1, h2⟩ := h
 obtain ⟨m, g1, g2⟩ := g
 obtain ⟨b, rfl, _, _, _, h3⟩ := h1
 obtain ⟨c, e, _, _, _, g3⟩ := g1
 cases e
 rw [Nat.sub_self] at h3 g3
 have : n = m := by simp at h3 g3; omega
 subst this
 have := p2 (lpn k)
 have : (q - r) * 2 ^ lpn k = 0 := by grind
 rcases Rat.mul_eq_zero.1 this with h | h <;> grind
theorem Rv.read {k : FloatKind} {q : Rat} {x : F} (h : Rv k q x) : ∃ b s m a u, x = some b ∧ k.format.read b = .number s m (k.format.leastPlace + (a : Nat)) ∧ 0 ≤ u ∧ u * 2 ^ lpn k = (m : Rat) * 2 ^ a ∧ q = sg s u ∧ ((sval s (m * 2 ^ a) : Int) : Rat) = q * 2 ^ lpn k := by
 obtain ⟨n, ⟨b, rfl, h1, h2, _, h3⟩, h4⟩ := h
 obtain ⟨m, a, e1, e2⟩ := read_fin k.format h2
 have hp := p2 (lpn k)
 have ha := p2 a
 rw [Nat.sub_self] at h3
 unfold fval at h3
 rw [← e2] at h3
 simp only [Nat.pow_zero, Int.natCast_one, Int.mul_one] at h3
 refine ⟨b, wneg k.format b, m, a, (m : Rat) * 2 ^ a / 2 ^ lpn k, rfl, e1, ?_, by grind, ?_⟩
 ·exact div_nonneg hp (Rat.mul_nonneg (by exact_mod_cast Nat.zero_le m) (by grind))
 ·refine ⟨?_, by rw [h3]; exact h4⟩
  rw [← h3] at h4
  unfold sval at h4
  unfold sg
  cases hw : wneg k.format b <;> rw [hw] at h4 <;> simp [Rat.intCast_natCast] at h4 ⊢ <;> grind
theorem rv_word {k : FloatKind} {s : Bool} {r : Nat} (h : r < k.format.infRung) : Rv k (sg s ((rval k.format r : Nat) / 2 ^ lpn k)) (some (k.format.word s r)) := by
 have hp := p2 (lpn k)
 refine ⟨sval s (rval k.format r), ?_, ?_⟩
 ·refine Dy.word' (Nat.le_refl _) ?_ h fun hne => ?_
  ·rw [sval_natAbs, Nat.sub_self]; simp
  ·unfold sval at hne ⊢
   cases s <;> simp at hne ⊢ <;> omega
 ·have := div_mul_pos (a := ((rval k.format r : Nat) : Rat)) hp
  unfold sval sg
  cases s <;> simp [Rat.intCast_natCast] <;> grind
theorem rv_near {k : FloatKind} {s : Bool} {m : Nat} {p : Int} {b c : Nat} {u M : Rat} (hp : p + (b : Int) = k.format.leastPlace + (c : Int)) (hu : u * 2 ^ (lpn k + b) = (m : Rat) * 2 ^ c) (hM : u ≤ M) (h60 : M ≤ 2 ^ 60) :
  ∃ r, Rv k (sg s r) (some (k.format.nearest s m p)) ∧ 0 ≤ r ∧ Ab (r - u) (M * (1 / 2 ^ (k.format.fractionBits + 1)) + 1 / 2 ^ (lpn k + 1)) := by
 have hP := p2 (lpn k)
 have hB := p2 b
 have hC := p2 c
 have hF := p2 (k.format.fractionBits + 1)
 have hm0 : (0 : Rat) ≤ (m : Rat) := by exact_mod_cast Nat.zero_le m
 have hmC : (0 : Rat) ≤ (m : Rat) * 2 ^ c := Rat.mul_nonneg hm0 (by grind)
 rw [rpow_add] at hu
 have hPB : (0 : Rat) < 2 ^ lpn k * 2 ^ b := Rat.mul_pos hP hB
 have hu0 : 0 ≤ u := Rat.le_of_mul_le_mul_right (c := 2 ^ lpn k * 2 ^ b) (by grind) hPB
 by_cases hm : m = 0
 ·subst hm
  have hu1 : u = 0 := by
   rcases Rat.mul_eq_zero.1 (show u * (2 ^ lpn k * 2 ^ b) = 0 by grind) with h | h <;> grind
  refine ⟨0, ?_, Rat.le_refl, ?_⟩
  ·have := rv_word (k := k) (s := s) (r := 0) (by cases k <;> decide)
   unfold Format.nearest
   rw [if_pos rfl]
   rw [rval_zero, show ((0 : Nat) : Rat) / 2 ^ lpn k = 0 from by grind] at this
   exact this
  ·rw [hu1]
   have h1 : (0 : Rat) < 1 / 2 ^ (k.format.fractionBits + 1) := one_div_pos hF
   have h2 : (0 : Rat) < 1 / 2 ^ (lpn k + 1) := one_div_pos (p2 _)
   have h3 := Rat.mul_nonneg (show 0 ≤ M by grind) (show (0 : Rat) ≤ 1 / 2 ^ (k.format.fractionBits + 1) by grind)
   exact ⟨by grind, by grind⟩
 ·have hlog2 : 2 ^ m.log2 ≤ m := Nat.log2_self_le hm
  have hlog : m.log2 + c ≤ 60 + (lpn k + b) := by
   have h1 : (m : Rat) * 2 ^ c ≤ 2 ^ 60 * (2 ^ lpn k * 2 ^ b) := by
    rw [← hu]
    exact Rat.mul_le_mul_of_nonneg_right (by grind) (by grind)
   have h2 : m * 2 ^ c ≤ 2 ^ 60 * (2 ^ lpn k * 2 ^ b) := by exact_mod_cast h1
   have h3 : 2 ^ (m.log2 + c) ≤ 2 ^ (60 + (lpn k + b)) := by
    rw [Nat.pow_add, Nat.pow_add 2 60, Nat.pow_add 2 (lpn k)]
    exact Nat.le_trans (Nat.mul_le_mul_right _ hlog2) h2
   exact (Nat.pow_le_pow_iff_right (by decide)).1 h3
  obtain ⟨K, hK⟩ : ∃ K : Nat, (K : Int) = 60 + lpn k ∧ (K + 2) * k.format.binade < k.format.infRung := by
   refine ⟨60 + lpn k, by omega, ?_⟩
   cases k <;> decide +kernel
  obtain ⟨r, E, e, hr, hE, l1, l2⟩ := nearest_near k.format s (m := m) (p := p) (b := b) (c := c) (K := K) hm hp (by rw [hK.1]; have := lpn_eq k; omega) hK.2
  have hE' : (2 * (E : Rat) ≤ 2 ^ b ∨ 2 ^ (k.format.fractionBits + 1) * (E : Rat) ≤ (m : Rat) * 2 ^ c) := by exact_mod_cast hE
  have l1' : ((rval k.format r : Nat) : Rat) * 2 ^ b ≤ (m : Rat) * 2 ^ c + E := by exact_mod_cast l1
  have l2' : (m : Rat) * 2 ^ c ≤ ((rval k.format r : Nat) : Rat) * 2 ^ b + E := by exact_mod_cast l2
  have hR0 : (0 : Rat) ≤ ((rval k.format r : Nat) : Rat) := by exact_mod_cast Nat.zero_le _
  have hE0 : (0 : Rat) ≤ (E : Rat) := by exact_mod_cast Nat.zero_le _
  generalize hRR : ((rval k.format r : Nat) : Rat) = R at *
  refine ⟨R / 2 ^ lpn k, ?_, ?_, ?_⟩
  ·rw [e, ← hRR]; exact rv_word hr
  ·exact div_nonneg hP hR0
  ·have hd : (R / 2 ^ lpn k - u) * (2 ^ lpn k * 2 ^ b) = R * 2 ^ b - (m : Rat) * 2 ^ c := by grind
   generalize R / 2 ^ lpn k - u = d at hd ⊢
   have f1 : (1 / 2 ^ (k.format.fractionBits + 1) : Rat) * 2 ^ (k.format.fractionBits + 1) = 1 := by grind
   have f2 : (1 / 2 ^ (lpn k + 1) : Rat) * 2 ^ lpn k = 1 / 2 := by
    rw [rpow_add]; grind
   have hx := one_div_pos hF
   have hy := one_div_pos (p2 (lpn k + 1))
   generalize (1 / 2 ^ (k.format.fractionBits + 1) : Rat) = x at *
   generalize (1 / 2 ^ (lpn k + 1) : Rat) = y at *
   generalize (2 : Rat) ^ (k.format.fractionBits + 1) = Fp at *
   generalize (2 : Rat) ^ lpn k = P at *
   generalize (2 : Rat) ^ b = B at *
   generalize (m : Rat) * 2 ^ c = V at *
   have hMx : 0 ≤ M * x := Rat.mul_nonneg (Rat.le_trans hu0 hM) (Rat.le_of_lt hx)
   have key : (E : Rat) ≤ (M * x + y) * (P * B) := by
    rcases hE' with h | h
    ·have h1 : y * (P * B) = B / 2 := by grind
     have h2 := Rat.mul_nonneg hMx (show 0 ≤ P * B by grind)
     grind
    ·have h1 : (E : Rat) = x * (Fp * E) := by grind
     have h2 : x * (Fp * E) ≤ x * V := Rat.mul_le_mul_of_nonneg_left h (by grind)
     have h3 : x * V = x * u * (P * B) := by grind
     have h4 : x * u * (P * B) ≤ x * M * (P * B) := Rat.mul_le_mul_of_nonneg_right (Rat.mul_le_mul_of_nonneg_left hM (by grind)) (by grind)
     have h5 := Rat.mul_nonneg (show 0 ≤ y by grind) (show 0 ≤ P * B by grind)
     grind
   exact ⟨Rat.le_of_mul_le_mul_right (c := P * B) (by grind) hPB, Rat.le_of_mul_le_mul_right (c := P * B) (by grind) hPB⟩
def er (k : FloatKind) (M : Rat) : Rat := M * ep k + et k
theorem ep_pos (k : FloatKind) : 0 < ep k := one_div_pos (p2 _)
theorem et_pos (k : FloatKind) : 0 < et k := one_div_pos (p2 _)
theorem half_pow (n : Nat) : (1 : Rat) / 2 ^ (n + 1) = 1 / 2 ^ n / 2 := by
 have := p2 n
 rw [Rat.pow_succ]; grind
theorem er_of {k : FloatKind} {M x : Rat} (hM : 0 ≤ M) (h : Ab x (M * (1 / 2 ^ (k.format.fractionBits + 1)) + 1 / 2 ^ (lpn k + 1))) : Ab x (er k M) := by
 refine h.mono ?_
 rw [half_pow, half_pow]
 have h1 := Rat.mul_nonneg hM (Rat.le_of_lt (ep_pos k))
 have h2 := et_pos k
 show M * (ep k / 2) + et k / 2 ≤ M * ep k + et k
 grind
def eh (k : FloatKind) (M : Rat) : Rat := M * (1 / 2 ^ (k.format.fractionBits + 1)) + 1 / 2 ^ (lpn k + 1)
theorem sum_rvh {k : FloatKind} {s t : Bool} {m n a d : Nat} {q r M : Rat} (hq : ((sval s (m * 2 ^ a) : Int) : Rat) = q * 2 ^ lpn k) (hr : ((sval t (n * 2 ^ d) : Int) : Rat) = r * 2 ^ lpn k) (hM : Ab (q + r) M) (h60 : M ≤ 2 ^ 60) :
  ∃ z, Rv k z ((Datum.sum (.number s m (k.format.leastPlace + a)) (.number t n (k.format.leastPlace + d))).map k.format.write) ∧ Ab (z - (q + r)) (eh k M) := by
 simp only [Datum.sum]
 have e1 : (k.format.leastPlace + (a : Int) - min (k.format.leastPlace + (a : Int)) (k.format.leastPlace + (d : Int))).toNat = a - min a d := by omega
 have e2 : (k.format.leastPlace + (d : Int) - min (k.format.leastPlace + (a : Int)) (k.format.leastPlace + (d : Int))).toNat = d - min a d := by omega
 have e3 : min (k.format.leastPlace + (a : Int)) (k.format.leastPlace + (d : Int)) = k.format.leastPlace + ((min a d : Nat) : Int) := by omega
 rw [e1, e2, e3]
 rw [sval_signed s m a (min a d) (Nat.min_le_left _ _)] at hq
 rw [sval_signed t n d (min a d) (Nat.min_le_right _ _)] at hr
 have hT : ((signed s m (a - min a d) + signed t n (d - min a d) : Int) : Rat) * 2 ^ min a d = (q + r) * 2 ^ lpn k := by
  push_cast at hq hr ⊢; grind
 generalize signed s m (a - min a d) + signed t n (d - min a d) = total at hT ⊢
 generalize hsg : (if total = 0 then s && t else decide (total < 0)) = w
 have hP := p2 (lpn k)
 have hC := p2 (min a d)
 have hu : ∃ u, u * 2 ^ (lpn k + 0) = (total.natAbs : Rat) * 2 ^ min a d ∧ sg w u = q + r := by
  rw [Nat.add_zero]
  by_cases h0 : total < 0
  ·have hn : (total.natAbs : Int) = -total := by omega
   have hn' : ((total.natAbs : Nat) : Rat) = -((total : Int) : Rat) := by rw [← Rat.intCast_natCast, hn]; push_cast; rfl
   refine ⟨-(q + r), by rw [hn']; grind, ?_⟩
   rw [← hsg, if_neg (by omega), decide_eq_true h0]
   unfold sg; simp
  ·have hn : (total.natAbs : Int) = total := by omega
   have hn' : ((total.natAbs : Nat) : Rat) = ((total : Int) : Rat) := by rw [← Rat.intCast_natCast, hn]
   refine ⟨q + r, by rw [hn']; grind, ?_⟩
   by_cases h1 : total = 0
   ·have hz : q + r = 0 := by
     subst h1
     rcases Rat.mul_eq_zero.1 (show (q + r) * 2 ^ lpn k = 0 by rw [← hT]; simp) with h | h
     ·exact h
     ·rw [h] at hP; exact absurd hP (by decide)
    rw [hz, sg_zero]
   ·rw [← hsg, if_neg h1, decide_eq_false h0]
    unfold sg; simp
 obtain ⟨u, u1, u2⟩ := hu
 have huM : u ≤ M := by
  rw [← u2] at hM
  unfold sg at hM
  obtain ⟨h1, h2⟩ := hM
  cases w <;> simp at h1 h2 <;> grind
 obtain ⟨z, z1, _, z2⟩ := rv_near (k := k) (s := w) (m := total.natAbs) (p := k.format.leastPlace + ((min a d : Nat) : Int)) (b := 0) (c := min a d) (u := u) (M := M) (by omega) u1 huM h60
 refine ⟨sg w z, ?_, ?_⟩
 ·rw [Option.map_some]; exact z1
 ·rw [← u2, sg_sub]; exact z2.sg
theorem Rv.addh {k : FloatKind} {q r M : Rat} {x y : F} (hx : Rv k q x) (hy : Rv k r y) (hM : Ab (q + r) M) (h60 : M ≤ 2 ^ 60) : ∃ z, Rv k z (fop .add k x y) ∧ Ab (z - (q + r)) (eh k M) := by
 obtain ⟨b, s, m, a, u, rfl, e1, _, _, _, h1⟩ := hx.read
 obtain ⟨c, t, n, d, w, rfl, e2, _, _, _, h2⟩ := hy.read
 have e : fop .add k (some b) (some c) = (Datum.sum (.number s m (k.format.leastPlace + a)) (.number t n (k.format.leastPlace + d))).map k.format.write := by
  show k.format.add b c = _
  unfold Format.add
  rw [e1, e2]
 rw [e]; exact sum_rvh h1 h2 hM h60
theorem Rv.subh {k : FloatKind} {q r M : Rat} {x y : F} (hx : Rv k q x) (hy : Rv k r y) (hM : Ab (q - r) M) (h60 : M ≤ 2 ^ 60) : ∃ z, Rv k z (fop .sub k x y) ∧ Ab (z - (q - r)) (eh k M) := by
 obtain ⟨b, s, m, a, u, rfl, e1, _, _, _, h1⟩ := hx.read
 obtain ⟨c, t, n, d, w, rfl, e2, _, _, _, h2⟩ := hy.read
 have e : fop .sub k (some b) (some c) = (Datum.sum (.number s m (k.format.leastPlace + a)) (.number (!t) n (k.format.leastPlace + d))).map k.format.write := by
  show k.format.sub b c = _
  unfold Format.sub
  rw [e1, e2]; rfl
 rw [e, Rat.sub_eq_add_neg]
 rw [Rat.sub_eq_add_neg] at hM
 refine sum_rvh h1 ?_ hM h60
 rw [sval_not]; push_cast; grind
theorem Rv.mulh {k : FloatKind} {q r M : Rat} {x y : F} (hx : Rv k q x) (hy : Rv k r y) (hM : Ab (q * r) M) (h60 : M ≤ 2 ^ 60) : ∃ z, Rv k z (fop .mul k x y) ∧ Ab (z - q * r) (eh k M) := by
 obtain ⟨b, s, m, a, u, rfl, e1, u0, u1, u2, h1⟩ := hx.read
 obtain ⟨c, t, n, d, w, rfl, e2, w0, w1, w2, h2⟩ := hy.read
 have e : fop .mul k (some b) (some c) = some (k.format.nearest (s ^^ t) (m * n) (k.format.leastPlace + (a : Int) + (k.format.leastPlace + (d : Int)))) := by
  show k.format.mul b c = _
  unfold Format.mul
  rw [e1, e2]; rfl
 have hqr : q * r = sg (s ^^ t) (u * w) := by rw [u2, w2, sg_mul]
 have huM : u * w ≤ M := by
  rw [hqr] at hM
  unfold sg at hM
  obtain ⟨h1, h2⟩ := hM
  have := Rat.mul_nonneg u0 w0
  cases hb : (s ^^ t) <;> rw [hb] at h1 h2 <;> simp at h1 h2 <;> grind
 obtain ⟨z, z1, _, z2⟩ := rv_near (k := k) (s := s ^^ t) (m := m * n) (p := k.format.leastPlace + (a : Int) + (k.format.leastPlace + (d : Int))) (b := lpn k) (c := a + d) (u := u * w) (M := M) (by have := lpn_eq k; omega) (by
  rw [rpow_add, rpow_add]; push_cast; grind) huM h60
 refine ⟨sg (s ^^ t) z, by rw [e]; exact z1, ?_⟩
 rw [hqr, sg_sub]; exact z2.sg
theorem Rv.add {k : FloatKind} {q r M : Rat} {x y : F} (hx : Rv k q x) (hy : Rv k r y) (hM : Ab (q + r) M) (h60 : M ≤ 2 ^ 60) : ∃ z, Rv k z (fop .add k x y) ∧ Ab (z - (q + r)) (er k M) := by
 obtain ⟨z, z1, z2⟩ := hx.addh hy hM h60
 exact ⟨z, z1, er_of hM.nonneg z2⟩
theorem Rv.sub {k : FloatKind} {q r M : Rat} {x y : F} (hx : Rv k q x) (hy : Rv k r y) (hM : Ab (q - r) M) (h60 : M ≤ 2 ^ 60) : ∃ z, Rv k z (fop .sub k x y) ∧ Ab (z - (q - r)) (er k M) := by
 obtain ⟨z, z1, z2⟩ := hx.subh hy hM h60
 exact ⟨z, z1, er_of hM.nonneg z2⟩
theorem Rv.mul {k : FloatKind} {q r M : Rat} {x y : F} (hx : Rv k q x) (hy : Rv k r y) (hM : Ab (q * r) M) (h60 : M ≤ 2 ^ 60) : ∃ z, Rv k z (fop .mul k x y) ∧ Ab (z - q * r) (er k M) := by
 obtain ⟨z, z1, z2⟩ := hx.mulh hy hM h60
 exact ⟨z, z1, er_of hM.nonneg z2⟩
theorem Rv.ord {k : FloatKind} {q r : Rat} {x y : F} (hx : Rv k q x) (hy : Rv k r y) : flt k x y = decide (q < r) ∧ fle k x y = decide (q ≤ r) ∧ feq k x y = decide (q = r) := by
 obtain ⟨n, h1, h2⟩ := hx
 obtain ⟨m, g1, g2⟩ := hy
 have hP := p2 (lpn k)
 rw [h1.flt g1, h1.fle g1, h1.feq g1]
 have a1 : n < m ↔ q < r := by
  constructor
  ·intro h
   have : (n : Rat) < (m : Rat) := by exact_mod_cast h
   rw [h2, g2] at this
   exact Rat.lt_of_mul_lt_mul_right this (Rat.le_of_lt hP)
  ·intro h
   have : (n : Rat) < (m : Rat) := by rw [h2, g2]; exact Rat.mul_lt_mul_of_pos_right h hP
   exact_mod_cast this
 have a2 : m < n ↔ r < q := by
  constructor
  ·intro h
   have : (m : Rat) < (n : Rat) := by exact_mod_cast h
   rw [h2, g2] at this
   exact Rat.lt_of_mul_lt_mul_right this (Rat.le_of_lt hP)
  ·intro h
   have : (m : Rat) < (n : Rat) := by rw [h2, g2]; exact Rat.mul_lt_mul_of_pos_right h hP
   exact_mod_cast this
 refine ⟨decide_eq_decide.2 a1, decide_eq_decide.2 ?_, decide_eq_decide.2 ?_⟩
 ·rw [← Int.not_lt, a2, Rat.not_lt]
 ·constructor
  ·intro h; subst h
   have h3 : ¬ q < r := fun h => by have := a1.2 h; omega
   have h4 : ¬ r < q := fun h => by have := a2.2 h; omega
   exact Rat.le_antisymm (Rat.not_lt.1 h4) (Rat.not_lt.1 h3)
  ·intro h; subst h
   have h3 : ¬ n < m := fun h => by have := a1.1 h; grind
   have h4 : ¬ m < n := fun h => by have := a2.1 h; grind
   omega
theorem Rv.widen {q : Rat} {x : F} (h : Rv .f32 q x) : Rv .f64 q (fwiden x) := by
 obtain ⟨n, h1, h2⟩ := h
 have := Rv.of_dy h1.widen
 have e : (n : Rat) / 2 ^ lpn .f32 = q := by have := p2 (lpn .f32); grind
 rw [e] at this; exact this
theorem Rv.narrow {q M : Rat} {x : F} (hx : Rv .f64 q x) (hM : Ab q M) (h60 : M ≤ 2 ^ 60) : ∃ z y, fnarrow x = some y ∧ Rv .f32 z y ∧ Ab (z - q) (er .f32 M) := by
 obtain ⟨b, s, m, a, u, rfl, e1, u0, u1, u2, h1⟩ := hx.read
 have e1 : double.read b = .number s m (-1074 + (a : Int)) := e1
 have huM : u ≤ M := by
  rw [u2] at hM
  unfold sg at hM
  obtain ⟨h1, h2⟩ := hM
  cases s <;> simp at h1 h2 <;> grind
 obtain ⟨z, z1, _, z2⟩ := rv_near (k := .f32) (s := s) (m := m) (p := -1074 + (a : Int)) (b := 925) (c := a) (u := u) (M := M) (by rw [lpn_eq]; show -1074 + (a : Int) + 925 = -149 + (a : Int); omega) (by
  have : lpn .f32 + 925 = lpn .f64 := by decide
  rw [this]; exact u1) huM h60
 refine ⟨sg s z, some (single.nearest s m (-1074 + (a : Int))), ?_, z1, by rw [u2, sg_sub]; exact (er_of hM.nonneg z2).sg⟩
 have hd : FloatKind.f64.decode b = .number s m (-1074 + (a : Int)) := e1
 unfold fnarrow
 simp only
 rw [hd]
 simp only
 rw [if_neg]
 ·rfl
 ·obtain ⟨c, t, n, d, w, e, e2, _⟩ := z1.read
  cases e
  show ¬ (single.read (single.nearest s m (-1074 + (a : Int)))).isInfinity = true
  have e2 : single.read (single.nearest s m (-1074 + (a : Int))) = _ := e2
  rw [e2]; simp [Datum.isInfinity]
theorem quo_near (f : Format) {m n : Nat} (hm : m ≠ 0) (hn : n ≠ 0) {more : Nat} (hmo : f.fractionBits + 2 + n.log2 - m.log2 = more) :
  ∃ W, W = 2 * (m * 2 ^ more / n) + (m * 2 ^ more % n != 0).toNat ∧ n * W ≤ 2 * (m * 2 ^ more) + n ∧ 2 * (m * 2 ^ more) ≤ n * W + n ∧ n * 2 ^ (f.fractionBits + 2) ≤ 2 * (m * 2 ^ more) := by
 refine ⟨_, rfl, ?_⟩
 have hdm := Nat.div_add_mod (m * 2 ^ more) n
 have hlt := Nat.mod_lt (m * 2 ^ more) (Nat.pos_of_ne_zero hn)
 have hlog : m.log2 + more = (m * 2 ^ more).log2 := (log2_mul_pow hm).symm
 have h0 : m * 2 ^ more ≠ 0 := Nat.mul_ne_zero hm (Nat.ne_of_gt (Nat.two_pow_pos _))
 have h1 : 2 ^ (m * 2 ^ more).log2 ≤ m * 2 ^ more := Nat.log2_self_le h0
 have h2 : n < 2 ^ (n.log2 + 1) := Nat.lt_log2_self
 have h3 : 2 ^ (f.fractionBits + 2 + n.log2) ≤ m * 2 ^ more := Nat.le_trans (Nat.pow_le_pow_right (by decide) (by omega)) h1
 have h4 : n * 2 ^ (f.fractionBits + 2) ≤ 2 * 2 ^ (f.fractionBits + 2 + n.log2) := by
  have : n * 2 ^ (f.fractionBits + 2) ≤ 2 ^ (n.log2 + 1) * 2 ^ (f.fractionBits + 2) := Nat.mul_le_mul_right _ (Nat.le_of_lt h2)
  rw [← Nat.pow_add, show n.log2 + 1 + (f.fractionBits + 2) = 1 + (f.fractionBits + 2 + n.log2) from by omega, Nat.pow_add 2 1, Nat.pow_one] at this
  exact this
 generalize m * 2 ^ more = D at *
 generalize D / n = Q at *
 generalize D % n = R at *
 have e : n * (2 * Q + (R != 0).toNat) = 2 * (n * Q) + n * (R != 0).toNat := by
  rw [Nat.mul_add, ← Nat.mul_assoc, Nat.mul_comm n 2, Nat.mul_assoc]
 rw [e]
 by_cases hR : R = 0
 ·have : (R != 0).toNat = 0 := by simp [hR]
  rw [this]; omega
 ·have : (R != 0).toNat = 1 := by simp [hR]
  rw [this]; omega
theorem quo_alg {N A F e v T S : Rat} (i4 : N * (4 * F) * A * e ≤ S * A * e) (hvT : v * (N * T) = S * A) (hep : e * F = 1) : N * A ≤ v * e / 4 * (N * T) := by
 have l1 : N * (4 * F) * A * e = 4 * (N * A) * (e * F) := by grind
 have l2 : S * A * e = v * e * (N * T) := by rw [← hvT]; grind
 rw [l1, l2, hep] at i4
 grind
theorem quo_d1 {N A S W v y T e : Rat} (i1 : N * W * A ≤ (S + N) * A) (hvT : v * (N * T) = S * A) (hyT : y * (N * T) = N * W * A) (i5 : N * A ≤ v * e / 4 * (N * T)) : (y - v) * (N * T) ≤ v * e / 4 * (N * T) := by
 rw [show (y - v) * (N * T) = y * (N * T) - v * (N * T) from by grind, hyT, hvT]; grind
theorem quo_d2 {N A S W v y T e : Rat} (i2 : S * A ≤ (N * W + N) * A) (hvT : v * (N * T) = S * A) (hyT : y * (N * T) = N * W * A) (i5 : N * A ≤ v * e / 4 * (N * T)) : -(v * e / 4) * (N * T) ≤ (y - v) * (N * T) := by
 rw [show (y - v) * (N * T) = y * (N * T) - v * (N * T) from by grind, hyT, hvT]; grind
theorem Rv.quo {k : FloatKind} {q r M : Rat} {x y : F} (hx : Rv k q x) (hy : Rv k r y) (hr0 : r ≠ 0) (hM : Ab (q / r) M) (h60 : M ≤ 2 ^ 50) : ∃ z, Rv k z (fop .quo k x y) ∧ Ab (z - q / r) (er k M) := by
 obtain ⟨b, s, m, a, u, rfl, e1, u0, u1, u2, h1⟩ := hx.read
 obtain ⟨c, t, n, d, w, rfl, e2, w0, w1, w2, h2⟩ := hy.read
 have hP := p2 (lpn k)
 have hF := p2 (k.format.fractionBits)
 have hw : w ≠ 0 := fun h => hr0 (by rw [w2, h, sg_zero])
 have hw' : 0 < w := by
  by_cases h : 0 < w
  ·exact h
  ·exact absurd (Rat.le_antisymm (Rat.not_lt.1 h) w0) hw
 have hn : n ≠ 0 := by
  intro h; subst h
  rcases Rat.mul_eq_zero.1 (show w * 2 ^ lpn k = 0 by rw [w1]; simp) with h | h
  ·exact hw h
  ·rw [h] at hP; exact absurd hP (by decide)
 have hqr : q / r = sg (s ^^ t) (u / w) := by
  rw [u2, w2]; unfold sg; cases s <;> cases t <;> simp <;> grind
 have uw0 : 0 ≤ u / w := div_nonneg hw' u0
 have huM : u / w ≤ M := by
  rw [hqr] at hM
  unfold sg at hM
  obtain ⟨h1, h2⟩ := hM
  cases hb : (s ^^ t) <;> rw [hb] at h1 h2 <;> simp at h1 h2 <;> grind
 generalize hmo : k.format.fractionBits + 2 + n.log2 - m.log2 = more
 have e : fop .quo k (some b) (some c) = some (k.format.nearest (s ^^ t) (2 * (m * 2 ^ more / n) + (m * 2 ^ more % n != 0).toNat) (k.format.leastPlace + (a : Int) - (k.format.leastPlace + (d : Int)) - (more : Int) - 1)) := by
  show k.format.div b c = _
  unfold Format.div
  rw [e1, e2]
  simp only [Datum.quotient, hn, if_false, Option.map_some, hmo, Nat.shiftLeft_eq]
  rfl
 rw [e]
 by_cases hm : m = 0
 ·have hu : u = 0 := by
   rcases Rat.mul_eq_zero.1 (show u * 2 ^ lpn k = 0 by rw [u1, hm]; simp) with h | h
   ·exact h
   ·rw [h] at hP; exact absurd hP (by decide)
  refine ⟨sg (s ^^ t) 0, ?_, ?_⟩
  ·subst hm
   have := rv_word (k := k) (s := s ^^ t) (r := 0) (by cases k <;> decide)
   rw [rval_zero, show ((0 : Nat) : Rat) / 2 ^ lpn k = 0 from by grind] at this
   simp only [Nat.zero_mul, Nat.zero_div, Nat.zero_mod, Nat.mul_zero]
   unfold Format.nearest
   rw [if_pos (by decide)]; exact this
  ·rw [hqr, sg_sub, hu]
   refine Ab.sg ?_
   have h1 := Rat.mul_nonneg hM.nonneg (Rat.le_of_lt (ep_pos k))
   have h2 := et_pos k
   unfold er
   have : (0 : Rat) - 0 / w = 0 := by grind
   rw [this]
   exact ⟨by grind, by grind⟩
 obtain ⟨W, eW, k1, k2, k3⟩ := quo_near k.format hm hn hmo
 rw [← eW]
 -- the approximate quotient
 have hN : (0 : Rat) < (n : Rat) := by exact_mod_cast Nat.pos_of_ne_zero hn
 have k1' : (n : Rat) * W ≤ 2 * (m * 2 ^ more) + n := by exact_mod_cast k1
 have k2' : (2 : Rat) * (m * 2 ^ more) ≤ n * W + n := by exact_mod_cast k2
 have k3' : (n : Rat) * 2 ^ (k.format.fractionBits + 2) ≤ 2 * (m * 2 ^ more) := by exact_mod_cast k3
 have hT := p2 (d + more + 1)
 have hA := p2 a
 have hMo := p2 more
 have hD := p2 d
 have pT : (2 : Rat) ^ (d + more + 1) = 2 ^ d * 2 ^ more * 2 := by rw [rpow_add, rpow_add]; grind
 -- y = W * 2^a / 2^T
 let y : Rat := (W : Rat) * 2 ^ a / 2 ^ (d + more + 1)
 have hy : y * 2 ^ (d + more + 1) = (W : Rat) * 2 ^ a := div_mul_pos hT
 have hv : u / w * ((n : Rat) * 2 ^ d) = (m : Rat) * 2 ^ a := by
  have : u / w * w = u := div_mul_pos hw'
  have h3 : u / w * (w * 2 ^ lpn k) = u * 2 ^ lpn k := by grind
  rw [w1, u1] at h3; exact h3
 generalize u / w = v at *
 generalize hyy : y = yy at *
 have hvT : v * (n * 2 ^ (d + more + 1)) = 2 * (m * 2 ^ more) * 2 ^ a := by rw [pT]; grind
 have hyT : yy * (n * 2 ^ (d + more + 1)) = n * W * 2 ^ a := by grind
 have hnT : (0 : Rat) < n * 2 ^ (d + more + 1) := Rat.mul_pos hN hT
 -- |yy - v| * n * 2^T ≤ n * 2^a, and v * n * 2^T ≥ n * 2^(fb+2) * 2^a
 have hx4 : (2 : Rat) ^ (k.format.fractionBits + 2) = 4 * 2 ^ k.format.fractionBits := by rw [rpow_add]; grind
 have hep : ep k * 2 ^ k.format.fractionBits = 1 := div_mul_pos hF
 have i1 := Rat.mul_le_mul_of_nonneg_right k1' (Rat.le_of_lt hA)
 have i2 := Rat.mul_le_mul_of_nonneg_right k2' (Rat.le_of_lt hA)
 have i3 := Rat.mul_le_mul_of_nonneg_right k3' (Rat.le_of_lt hA)
 have hep0 := ep_pos k
 have i4 := Rat.mul_le_mul_of_nonneg_right i3 (Rat.le_of_lt hep0)
 have i5 : (n : Rat) * 2 ^ a ≤ v * ep k / 4 * (n * 2 ^ (d + more + 1)) := by
  rw [hx4] at i4
  exact quo_alg i4 hvT hep
 have dv : Ab (yy - v) (v * ep k / 4) := by
  constructor
  ·exact Rat.le_of_mul_le_mul_right (c := n * 2 ^ (d + more + 1)) (quo_d2 i2 hvT hyT i5) hnT
  ·exact Rat.le_of_mul_le_mul_right (c := n * 2 ^ (d + more + 1)) (quo_d1 i1 hvT hyT i5) hnT
 have hM0 := hM.nonneg
 have hep1 : ep k ≤ 1 := by cases k <;> decide +kernel
 have vep : v * ep k ≤ M * ep k := Rat.mul_le_mul_of_nonneg_right huM (Rat.le_of_lt hep0)
 have vep1 : M * ep k ≤ M * 1 := Rat.mul_le_mul_of_nonneg_left hep1 hM0
 have v0 : 0 ≤ v * ep k := Rat.mul_nonneg uw0 (Rat.le_of_lt hep0)
 have hyM : yy ≤ M + M * ep k / 4 := by have := dv.2; grind
 obtain ⟨z, z1, _, z2⟩ := rv_near (k := k) (s := s ^^ t) (m := W) (p := k.format.leastPlace + (a : Int) - (k.format.leastPlace + (d : Int)) - (more : Int) - 1) (b := d + more + 1) (c := a + lpn k) (u := yy) (M := M + M * ep k / 4) (by have := lpn_eq k; omega) (by
  rw [rpow_add (lpn k), rpow_add a]; grind) hyM (by
  have e50 : (2 : Rat) ^ 50 = 1125899906842624 := by decide +kernel
  have e60 : (2 : Rat) ^ 60 = 1152921504606846976 := by decide +kernel
  rw [e50] at h60
  rw [e60]
  clear i1 i2 i3 i4 i5 k1' k2' k3' hvT hyT hy hv u1 w1 pT
  grind)
 refine ⟨sg (s ^^ t) z, z1, ?_⟩
 rw [hqr, sg_sub]
 refine Ab.sg ?_
 have : z - v = (z - yy) + (yy - v) := by grind
 rw [this]
 refine (z2.add dv).mono ?_
 rw [half_pow, half_pow]
 show (M + M * ep k / 4) * (ep k / 2) + et k / 2 + v * ep k / 4 ≤ M * ep k + et k
 have h2 := et_pos k
 have h3 : M * ep k * ep k ≤ M * ep k * 1 := Rat.mul_le_mul_of_nonneg_left hep1 (Rat.mul_nonneg hM0 (Rat.le_of_lt hep0))
 grind
theorem rootFrom_ok (n : Nat) : ∀ (t r : Nat), r * r ≤ n → n < (r + 2 ^ t) * (r + 2 ^ t) → Datum.rootFrom n t r * Datum.rootFrom n t r ≤ n ∧ n < (Datum.rootFrom n t r + 1) * (Datum.rootFrom n t r + 1)
 | 0, r, h1, h2 => by
  simp only [Datum.rootFrom]
  exact ⟨h1, by simpa using h2⟩
 | t + 1, r, h1, h2 => by
  unfold Datum.rootFrom
  simp only
  rw [Nat.one_shiftLeft]
  have hp : 2 ^ (t + 1) = 2 ^ t + 2 ^ t := by rw [Nat.pow_succ]; omega
  rw [hp, ← Nat.add_assoc] at h2
  split
  ·rename_i h; exact rootFrom_ok n t _ h h2
  ·rename_i h; exact rootFrom_ok n t _ h1 (by omega)
theorem root_whole {n : Nat} : Datum.rootFrom n (n.log2 / 2 + 1) 0 * Datum.rootFrom n (n.log2 / 2 + 1) 0 ≤ n ∧ n < (Datum.rootFrom n (n.log2 / 2 + 1) 0 + 1) * (Datum.rootFrom n (n.log2 / 2 + 1) 0 + 1) := by
 refine rootFrom_ok n _ 0 (by omega) ?_
 have h1 : n < 2 ^ (n.log2 + 1) := Nat.lt_log2_self
 rw [Nat.zero_add, ← Nat.pow_add]
 exact Nat.lt_of_lt_of_le h1 (Nat.pow_le_pow_right (by decide) (by omega))
theorem root_sq {n W : Nat} (h1 : W * W ≤ n) (h2 : n < (W + 1) * (W + 1)) (h3 : 2 ^ 108 ≤ n) :
  (2 * W + (W * W != n).toNat) * (2 * W + (W * W != n).toNat) ≤ 4 * n + 4 * W ∧ 4 * n ≤ (2 * W + (W * W != n).toNat) * (2 * W + (W * W != n).toNat) + 4 * W ∧ W * 2 ^ 53 ≤ n := by
 have hW : 2 ^ 53 ≤ W := by
  rcases Nat.lt_or_ge W (2 ^ 53) with h | h
  ·have : (W + 1) * (W + 1) ≤ 2 ^ 53 * 2 ^ 53 := Nat.mul_le_mul h h
   have e : (2 : Nat) ^ 53 * 2 ^ 53 = 2 ^ 106 := by decide
   have e2 : (2 : Nat) ^ 106 < 2 ^ 108 := by decide
   omega
  ·exact h
 have e2 : (W + 1) * (W + 1) = W * W + 2 * W + 1 := by rw [Nat.add_mul, Nat.mul_add]; omega
 rw [e2] at h2
 refine ⟨?_, ?_, Nat.le_trans (Nat.mul_le_mul_left W hW) h1⟩
 ·by_cases h : W * W = n
  ·have : (W * W != n).toNat = 0 := by simp [h]
   rw [this, Nat.add_zero, show 2 * W * (2 * W) = 4 * (W * W) from by rw [Nat.mul_mul_mul_comm]]; omega
  ·have : (W * W != n).toNat = 1 := by simp [h]
   rw [this, show (2 * W + 1) * (2 * W + 1) = 4 * (W * W) + 4 * W + 1 from by rw [Nat.add_mul, Nat.mul_add, Nat.mul_mul_mul_comm]; omega]; omega
 ·by_cases h : W * W = n
  ·have : (W * W != n).toNat = 0 := by simp [h]
   rw [this, Nat.add_zero, show 2 * W * (2 * W) = 4 * (W * W) from by rw [Nat.mul_mul_mul_comm]]; omega
  ·have : (W * W != n).toNat = 1 := by simp [h]
   rw [this, show (2 * W + 1) * (2 * W + 1) = 4 * (W * W) + 4 * W + 1 from by rw [Nat.add_mul, Nat.mul_add, Nat.mul_mul_mul_comm]; omega]; omega
theorem sq_alg {X N V W q w p53 : Rat} (hX : 0 ≤ X) (hq : q = N * X) (hw : 4 * (w * w) = V * X) (k1 : V ≤ 4 * N + 4 * W) (k2 : 4 * N ≤ V + 4 * W) (k3 : W * p53 ≤ N) (hp : p53 = 2 ^ 53) : Ab (w * w - q) (q / 2 ^ 53) := by
 have a1 := Rat.mul_le_mul_of_nonneg_right k1 hX
 have a2 := Rat.mul_le_mul_of_nonneg_right k2 hX
 have a3 := Rat.mul_le_mul_of_nonneg_right k3 hX
 have e : (2 : Rat) ^ 53 = 9007199254740992 := by decide +kernel
 rw [e] at hp ⊢
 subst hp
 constructor <;> grind
theorem Rv.sqrt {q : Rat} {x : F} (hx : Rv .f64 q x) (h0 : 0 < q) (h1 : q ≤ 2 ^ 40) : ∃ w z, Rv .f64 z (fsqrt x) ∧ 0 ≤ w ∧ Ab (w * w - q) (q / 2 ^ 53) ∧ Ab (z - w) (er .f64 w) := by
 obtain ⟨b, s, m, a, u, rfl, e1, u0, u1, u2, _⟩ := hx.read
 have hP := p2 (lpn .f64)
 have hs : s = false := by
  cases s with
  | false => rfl
  | true => unfold sg at u2; simp at u2; grind
 subst hs
 have u2 : q = u := by rw [u2]; unfold sg; simp
 subst u2
 have hm : m ≠ 0 := by
  intro h; subst h
  rcases Rat.mul_eq_zero.1 (show q * 2 ^ lpn .f64 = 0 by rw [u1]; simp) with h | h
  ·grind
  ·rw [h] at hP; exact absurd hP (by decide)
 have e1 : double.read b = .number false m (-1074 + (a : Int)) := e1
 have u1 : q * 2 ^ 1074 = (m : Rat) * 2 ^ a := u1
 generalize hmo : 2 * (double.fractionBits + 2) - m.log2 = mo
 generalize hmo2 : mo + ((-1074 + (a : Int) - (mo : Int)) % 2).toNat = more
 generalize hn : m <<< more = n
 have hmo' : 2 * 54 - m.log2 = mo := hmo
 have hml : more ≤ 109 := by omega
 have hev : (-1074 + (a : Int) - (more : Int)) % 2 = 0 := by omega
 obtain ⟨w1, w2⟩ := root_whole (n := n)
 have e : fsqrt (some b) = some (double.nearest false (2 * Datum.rootFrom n (n.log2 / 2 + 1) 0 + (Datum.rootFrom n (n.log2 / 2 + 1) 0 * Datum.rootFrom n (n.log2 / 2 + 1) 0 != n).toNat) ((-1074 + (a : Int) - (more : Int)) / 2 - 1)) := by
  show double.sqrt b = _
  unfold Format.sqrt
  rw [e1]
  simp only [Datum.root, hm, if_false, hmo, hmo2, hn]
  rfl
 rw [e]
 generalize Datum.rootFrom n (n.log2 / 2 + 1) 0 = W at *
 have hn' : n = m * 2 ^ more := by rw [← hn, Nat.shiftLeft_eq]
 have h108 : 2 ^ 108 ≤ n := by
  have : 2 ^ m.log2 ≤ m := Nat.log2_self_le hm
  have h2 := Nat.mul_le_mul_right (2 ^ more) this
  rw [← Nat.pow_add, ← hn'] at h2
  exact Nat.le_trans (Nat.pow_le_pow_right (by decide) (by omega)) h2
 obtain ⟨k1, k2, k3⟩ := root_sq w1 w2 h108
 generalize 2 * W + (W * W != n).toNat = V at *
 generalize hE : (-1074 + (a : Int) - (more : Int)) / 2 = E at *
 obtain ⟨c, hc⟩ : ∃ c : Nat, E - 1 + 1074 = (c : Int) := ⟨(E - 1 + 1074).toNat, by omega⟩
 obtain ⟨t, ht⟩ : ∃ t : Nat, a + 1074 = more + t := ⟨a + 1074 - more, by omega⟩
 have hct : 2 * c + 2 = t := by omega
 have hp74 : (0 : Rat) < 2 ^ 1074 := p2 1074
 have hq1 : q * (2 ^ 1074 * 2 ^ 1074) = (n : Rat) * 2 ^ t := by
  have : (m : Rat) * 2 ^ (a + 1074) = n * 2 ^ t := by
   rw [ht, hn', rpow_add]; push_cast; grind
  rw [rpow_add] at this
  generalize (2 : Rat) ^ 1074 = Z at *
  grind
 have hw1 : ((V : Rat) * 2 ^ c / 2 ^ 1074) * 2 ^ 1074 = (V : Rat) * 2 ^ c := div_mul_pos hp74
 have hw0 : 0 ≤ (V : Rat) * 2 ^ c / 2 ^ 1074 := div_nonneg hp74 (Rat.mul_nonneg (by exact_mod_cast Nat.zero_le V) (Rat.le_of_lt (p2 c)))
 generalize (V : Rat) * 2 ^ c / 2 ^ 1074 = w at *
 have h4 : (2 : Rat) ^ t = 4 * (2 ^ c * 2 ^ c) := by
  rw [← hct, rpow_add, show 2 * c = c + c from by omega, rpow_add]; grind
 have hww : Ab (w * w - q) (q / 2 ^ 53) := by
  have hZ : (0 : Rat) < 2 ^ 1074 * 2 ^ 1074 := Rat.mul_pos hp74 hp74
  refine sq_alg (X := 2 ^ t / (2 ^ 1074 * 2 ^ 1074)) (N := (n : Rat)) (V := (V : Rat) * V) (W := (W : Rat)) (p53 := 2 ^ 53) (div_nonneg hZ (Rat.le_of_lt (p2 t))) ?_ ?_ (by exact_mod_cast k1) (by exact_mod_cast k2) (by exact_mod_cast k3) rfl
  ·have : q = (n : Rat) * 2 ^ t / (2 ^ 1074 * 2 ^ 1074) := by rw [← hq1]; generalize (2 : Rat) ^ 1074 * 2 ^ 1074 = Z at *; grind
   rw [this]; generalize (2 : Rat) ^ 1074 * 2 ^ 1074 = Z at *; grind
  ·have h5 : w * w * (2 ^ 1074 * 2 ^ 1074) = V * V * (2 ^ c * 2 ^ c) := by
    generalize (2 : Rat) ^ 1074 = Z at *
    rw [show w * w * (Z * Z) = (w * Z) * (w * Z) from by grind, hw1]; grind
   have h6 : w * w = V * V * (2 ^ c * 2 ^ c) / (2 ^ 1074 * 2 ^ 1074) := by rw [← h5]; generalize (2 : Rat) ^ 1074 * 2 ^ 1074 = Z at *; grind
   rw [h6, h4]; generalize (2 : Rat) ^ 1074 * 2 ^ 1074 = Z at *; grind
 have hw60 : w ≤ 2 ^ 60 := by
  by_cases h : w ≤ 2 ^ 60
  ·exact h
  ·exfalso
   have h2 : (2 : Rat) ^ 60 < w := Rat.not_le.1 h
   have h3 := hww.2
   have e40 : (2 : Rat) ^ 40 = 1099511627776 := by decide +kernel
   have e53 : (2 : Rat) ^ 53 = 9007199254740992 := by decide +kernel
   have e60 : (2 : Rat) ^ 60 = 1152921504606846976 := by decide +kernel
   rw [e40] at h1
   rw [e53] at h3
   rw [e60] at h2
   have := Rat.mul_le_mul_of_nonneg_left (a := (1152921504606846976 : Rat)) (b := w) (c := w) (Rat.le_of_lt h2) hw0
   grind
 obtain ⟨z, z1, _, z2⟩ := rv_near (k := .f64) (s := false) (m := V) (p := E - 1) (b := 0) (c := c) (u := w) (M := w) (by rw [lpn_eq]; show E - 1 + ((0 : Nat) : Int) = -1074 + (c : Int); omega) (by rw [Nat.add_zero]; exact hw1) Rat.le_refl hw60
 refine ⟨w, z, ?_, hw0, hww, er_of hw0 z2⟩
 have : sg false z = z := by unfold sg; simp
 rw [this] at z1
 exact z1
theorem root_alg {q w z y : Rat} (h0 : 1 / 4 ≤ q) (hw0 : 0 ≤ w) (hw : Ab (w * w - q) (q / 9007199254740992)) (h1 : Ab (y - w) (w / 4503599627370496 + 1 / 1000000000000000)) (h2 : Ab (z - y) ((w + 1 / 1000) / 8388608 + 1 / 1000000000000000)) : 0 ≤ z ∧ Ab (z * z - q) (q / 1048576) := by
 obtain ⟨a1, a2⟩ := hw
 obtain ⟨b1, b2⟩ := h1
 obtain ⟨c1, c2⟩ := h2
 have hw2 : 2 / 5 ≤ w := by
  by_cases h : 2 / 5 ≤ w
  ·exact h
  ·have h3 : w < 2 / 5 := Rat.not_le.1 h
   have h4 : w * w ≤ w * (2 / 5) := Rat.mul_le_mul_of_nonneg_left (Rat.le_of_lt h3) hw0
   grind
 have hd : Ab (z - w) (w / 4194304) := ⟨by grind, by grind⟩
 obtain ⟨d1, d2⟩ := hd
 have hz : 0 ≤ z := by grind
 refine ⟨hz, ?_⟩
 have e : z * z - q = (w * w - q) + (z - w) * (z + w) := by grind
 have hs : Ab (z + w) (w * 3) := ⟨by grind, by grind⟩
 have hm := Ab.mul ⟨d1, d2⟩ hs
 rw [e]
 have ww : w * w ≤ q * (1 + 1 / 9007199254740992) := by grind
 have hww : w / 4194304 * (w * 3) = w * w * (3 / 4194304) := by grind
 rw [hww] at hm
 obtain ⟨m1, m2⟩ := hm
 exact ⟨by grind, by grind⟩
theorem Rv.root {q : Rat} {x : F} (hx : Rv .f32 q x) (h0 : 1 / 4 ≤ q) (h1 : q ≤ 1048576) : ∃ z, Rv .f32 z (rootN x) ∧ 0 ≤ z ∧ Ab (z * z - q) (q / 1048576) := by
 have e40 : (2 : Rat) ^ 40 = 1099511627776 := by decide +kernel
 have e60 : (2 : Rat) ^ 60 = 1152921504606846976 := by decide +kernel
 obtain ⟨w, y, y1, w0, y2, y3⟩ := (hx.widen).sqrt (by grind) (by rw [e40]; grind)
 have e53 : (2 : Rat) ^ 53 = 9007199254740992 := by decide +kernel
 rw [e53] at y2
 have ep64 : ep .f64 = 1 / 4503599627370496 := by decide +kernel
 have ep32 : ep .f32 = 1 / 8388608 := by decide +kernel
 have et64 : et .f64 ≤ 1 / 1000000000000000 := by decide +kernel
 have et32 : et .f32 ≤ 1 / 1000000000000000 := by decide +kernel
 have y3' : Ab (y - w) (w / 4503599627370496 + 1 / 1000000000000000) := y3.mono (by unfold er; rw [ep64]; grind)
 have w4 : w ≤ 1048577 := by
  by_cases h : w ≤ 1048577
  ·exact h
  ·exfalso
   have h2 : 1048577 < w := Rat.not_le.1 h
   have := Rat.mul_le_mul_of_nonneg_left (a := (1048577 : Rat)) (b := w) (c := w) (Rat.le_of_lt h2) w0
   have h3 := y2.2
   grind
 have hy : Ab y (w + 1 / 1000) := ⟨by have := y3'.1; grind, by have := y3'.2; grind⟩
 obtain ⟨z, c, c1, c2, c3⟩ := y1.narrow hy (by rw [e60]; grind)
 have c3' : Ab (z - y) ((w + 1 / 1000) / 8388608 + 1 / 1000000000000000) := c3.mono (by unfold er; rw [ep32]; grind)
 obtain ⟨r1, r2⟩ := root_alg h0 w0 y2 y3' c3'
 refine ⟨z, ?_, r1, r2⟩
 unfold rootN
 rw [c1]; exact c2
def Fv (x : F) : Prop := ∃ q, Rv .f32 q x
open Classical in
noncomputable def vl (x : F) : Rat := if h : Fv x then h.choose else 0
theorem Fv.rv {x : F} (h : Fv x) : Rv .f32 (vl x) x := by
 unfold vl
 rw [dif_pos h]; exact h.choose_spec
theorem Rv.fv {q : Rat} {x : F} (h : Rv .f32 q x) : Fv x := ⟨q, h⟩
theorem Rv.vl {q : Rat} {x : F} (h : Rv .f32 q x) : vl x = q := (Fv.rv ⟨q, h⟩).uniq h
theorem Fv.fok {x : F} (h : Fv x) : FOk .f32 x := h.rv.fok
theorem Fv.fin {x : F} (h : Fv x) : fin32 x = true := by
 obtain ⟨n, h, _⟩ := h.rv; exact h.fin
theorem Dy.fv {s : Nat} {n : Int} {x : F} (h : Dy .f32 s n x) : Fv x ∧ vl x = (n : Rat) / 2 ^ s := ⟨(Rv.of_dy h).fv, (Rv.of_dy h).vl⟩
def e32 (M : Rat) : Rat := M / 8388608 + 1 / 1000000000000000
theorem er_le (M : Rat) : er .f32 M ≤ e32 M := by
 have ep32 : ep .f32 = 1 / 8388608 := by decide +kernel
 have et32 : et .f32 ≤ 1 / 1000000000000000 := by decide +kernel
 unfold er e32; rw [ep32]; grind
theorem big50 {M : Rat} (h : M ≤ 1000000000) : M ≤ 2 ^ 50 := by
 have : (2 : Rat) ^ 50 = 1125899906842624 := by decide +kernel
 rw [this]; grind
theorem big60 {M : Rat} (h : M ≤ 1000000000) : M ≤ 2 ^ 60 := by
 have : (2 : Rat) ^ 60 = 1152921504606846976 := by decide +kernel
 rw [this]; grind
theorem fv_add {x y : F} {M : Rat} (hx : Fv x) (hy : Fv y) (hM : Ab (vl x + vl y) M) (h : M ≤ 1000000000) : Fv (fop .add .f32 x y) ∧ Ab (vl (fop .add .f32 x y) - (vl x + vl y)) (e32 M) := by
 obtain ⟨z, z1, z2⟩ := hx.rv.add hy.rv hM (big60 h)
 exact ⟨z1.fv, by rw [z1.vl]; exact z2.mono (er_le M)⟩
theorem fv_sub {x y : F} {M : Rat} (hx : Fv x) (hy : Fv y) (hM : Ab (vl x - vl y) M) (h : M ≤ 1000000000) : Fv (fop .sub .f32 x y) ∧ Ab (vl (fop .sub .f32 x y) - (vl x - vl y)) (e32 M) := by
 obtain ⟨z, z1, z2⟩ := hx.rv.sub hy.rv hM (big60 h)
 exact ⟨z1.fv, by rw [z1.vl]; exact z2.mono (er_le M)⟩
theorem fv_mul {x y : F} {M : Rat} (hx : Fv x) (hy : Fv y) (hM : Ab (vl x * vl y) M) (h : M ≤ 1000000000) : Fv (fop .mul .f32 x y) ∧ Ab (vl (fop .mul .f32 x y) - vl x * vl y) (e32 M) := by
 obtain ⟨z, z1, z2⟩ := hx.rv.mul hy.rv hM (big60 h)
 exact ⟨z1.fv, by rw [z1.vl]; exact z2.mono (er_le M)⟩
def h32 (M : Rat) : Rat := M / 16777216 + 1 / 1000000000000000
theorem fv_quo {x y : F} {M : Rat} (hx : Fv x) (hy : Fv y) (h0 : vl y ≠ 0) (hM : Ab (vl x / vl y) M) (h : M ≤ 1000000000) : Fv (fop .quo .f32 x y) ∧ Ab (vl (fop .quo .f32 x y) - vl x / vl y) (e32 M) := by
 obtain ⟨z, z1, z2⟩ := hx.rv.quo hy.rv h0 hM (big50 h)
 exact ⟨z1.fv, by rw [z1.vl]; exact z2.mono (er_le M)⟩
theorem fv_root {x : F} (hx : Fv x) (h0 : 1 / 4 ≤ vl x) (h1 : vl x ≤ 1048576) : Fv (rootN x) ∧ 0 ≤ vl (rootN x) ∧ Ab (vl (rootN x) * vl (rootN x) - vl x) (vl x / 1048576) := by
 obtain ⟨z, z1, z2, z3⟩ := hx.rv.root h0 h1
 rw [z1.vl]
 exact ⟨z1.fv, z2, z3⟩
theorem fv_zero : Fv (some 0) ∧ vl (some 0) = 0 := by
 have := (Dy.zero .f32 (s := 0) (by decide)).fv
 rw [show ((0 : Int) : Rat) / 2 ^ 0 = 0 from by decide +kernel] at this; exact this
theorem fv_lt {x y : F} (hx : Fv x) (hy : Fv y) : flt .f32 x y = decide (vl x < vl y) := (hx.rv.ord hy.rv).1
theorem fv_submul {y a b : F} {P M e : Rat} (hy : Fv y) (ha : Fv a) (hb : Fv b) (hP : Ab (vl a * vl b) P) (hM : Ab (vl y - vl a * vl b) M) (hP1 : P ≤ 1000000) (hM1 : M ≤ 1000000) (he : e32 P + e32 (M + e32 P) ≤ e) : Fv (fop .sub .f32 y (fop .mul .f32 a b)) ∧ Ab (vl (fop .sub .f32 y (fop .mul .f32 a b)) - (vl y - vl a * vl b)) e := by
 obtain ⟨m1, m2⟩ := fv_mul ha hb hP (by grind)
 have hd : Ab (vl y - vl (fop .mul .f32 a b)) (M + e32 P) := by
  have := hM.sub m2
  rw [show vl y - vl a * vl b - (vl (fop .mul .f32 a b) - vl a * vl b) = vl y - vl (fop .mul .f32 a b) from by grind] at this; exact this
 have p0 := hP.nonneg
 obtain ⟨s1, s2⟩ := fv_sub hy m1 hd (by unfold e32; grind)
 refine ⟨s1, ?_⟩
 have := s2.sub m2
 rw [show vl (fop .sub .f32 y (fop .mul .f32 a b)) - (vl y - vl (fop .mul .f32 a b)) - (vl (fop .mul .f32 a b) - vl a * vl b) = vl (fop .sub .f32 y (fop .mul .f32 a b)) - (vl y - vl a * vl b) from by grind] at this
 exact this.mono (by grind)
theorem fv_addmul {y a b : F} {P M e : Rat} (hy : Fv y) (ha : Fv a) (hb : Fv b) (hP : Ab (vl a * vl b) P) (hM : Ab (vl y + vl a * vl b) M) (hP1 : P ≤ 1000000) (hM1 : M ≤ 1000000) (he : e32 P + e32 (M + e32 P) ≤ e) : Fv (fop .add .f32 y (fop .mul .f32 a b)) ∧ Ab (vl (fop .add .f32 y (fop .mul .f32 a b)) - (vl y + vl a * vl b)) e := by
 obtain ⟨m1, m2⟩ := fv_mul ha hb hP (by grind)
 have hd : Ab (vl y + vl (fop .mul .f32 a b)) (M + e32 P) := by
  have := hM.add m2
  rw [show vl y + vl a * vl b + (vl (fop .mul .f32 a b) - vl a * vl b) = vl y + vl (fop .mul .f32 a b) from by grind] at this; exact this
 have p0 := hP.nonneg
 obtain ⟨s1, s2⟩ := fv_add hy m1 hd (by unfold e32; grind)
 refine ⟨s1, ?_⟩
 have := s2.add m2
 rw [show vl (fop .add .f32 y (fop .mul .f32 a b)) - (vl y + vl (fop .mul .f32 a b)) + (vl (fop .mul .f32 a b) - vl a * vl b) = vl (fop .add .f32 y (fop .mul .f32 a b)) - (vl y + vl a * vl b) from by grind] at this
 exact this.mono (by grind)
def rs (f : Nat → Rat) : Nat → Rat
 | 0 => 0
 | n + 1 => rs f n + f n
theorem rs_congr {f g : Nat → Rat} : ∀ {n : Nat}, (∀ j, j < n → f j = g j) → rs f n = rs g n
 | 0, _ => rfl
 | n + 1, h => by unfold rs; rw [rs_congr (n := n) fun j hj => h j (by omega), h n (by omega)]
theorem rs_add (f g : Nat → Rat) : ∀ n, rs (fun j => f j + g j) n = rs f n + rs g n
 | 0 => by simp only [rs]; grind
 | n + 1 => by unfold rs; rw [rs_add f g n]; grind
theorem rs_sub (f g : Nat → Rat) : ∀ n, rs (fun j => f j - g j) n = rs f n - rs g n
 | 0 => by simp only [rs]; grind
 | n + 1 => by unfold rs; rw [rs_sub f g n]; grind
theorem rs_mul (c : Rat) (f : Nat → Rat) : ∀ n, rs (fun j => c * f j) n = c * rs f n
 | 0 => by simp [rs]
 | n + 1 => by unfold rs; rw [rs_mul c f n]; grind
theorem rs_zero : ∀ n, rs (fun _ => 0) n = 0
 | 0 => rfl
 | n + 1 => by unfold rs; rw [rs_zero n]; grind
theorem rs_comm (f : Nat → Nat → Rat) (m : Nat) : ∀ n, rs (fun j => rs (fun i => f i j) m) n = rs (fun i => rs (fun j => f i j) n) m
 | 0 => by simp only [rs]; exact (rs_zero m).symm
 | n + 1 => by
  show rs (fun j => rs (fun i => f i j) m) n + rs (fun i => f i n) m = rs (fun i => rs (fun j => f i j) n + f i n) m
  rw [rs_comm f m n, rs_add]
theorem rs_ab {f : Nat → Rat} {e : Rat} : ∀ {n : Nat}, (∀ j, j < n → Ab (f j) e) → Ab (rs f n) ((n : Rat) * e)
 | 0, _ => by unfold rs; exact ⟨by simp, by simp⟩
 | n + 1, h => by
  unfold rs
  have := (rs_ab (n := n) fun j hj => h j (by omega)).add (h n (by omega))
  rw [show (n : Rat) * e + e = ((n + 1 : Nat) : Rat) * e from by push_cast; grind] at this
  exact this
theorem rs_split (f : Nat → Rat) (a : Nat) : ∀ b, rs f (a + b) = rs f a + rs (fun j => f (a + j)) b
 | 0 => by show rs f a = rs f a + 0; grind
 | b + 1 => by
  show rs f (a + b) + f (a + b) = rs f a + (rs (fun j => f (a + j)) b + f (a + b))
  rw [rs_split f a b]; grind
theorem rs_delta (f : Nat → Rat) (k : Nat) : ∀ n : Nat, rs (fun j => f j * (if j = k then 1 else 0)) n = if k < n then f k else 0
 | 0 => by simp [rs]
 | n + 1 => by
  unfold rs
  rw [rs_delta f k n]
  by_cases h : n = k
  ·subst h
   rw [if_neg (by omega), if_pos rfl, if_pos (by omega)]; grind
  ·rw [if_neg h]
   by_cases h2 : k < n
   ·rw [if_pos h2, if_pos (by omega)]; grind
   ·rw [if_neg h2, if_neg (by omega)]; grind
end Go.AM

namespace Go.AM
abbrev sFc (l : List F) : AV := AV.sl l.length (l.map AV.f32)
def ndB : List Nat → Bool
 | [] => true
 | a :: l => l.all (fun b => !Nat.beq a b) && ndB l
theorem ndB_ok {l : List Nat} (h : ndB l = true) : l.Nodup := by
 induction l with
 | nil => exact List.nodup_nil
 | cons a l ih =>
  simp only [ndB, Bool.and_eq_true, List.all_eq_true] at h
  exact List.nodup_cons.2 ⟨fun hm => by simpa using h.1 a hm, ih h.2⟩
section
variable {P : Program} {N : Nat} {all : Array Oper} {o : Oper} {rest : List Oper} {τ : List (Nat × AV)} {Γ : List Ob} {Q : PQ} {r : AV}
theorem zl {d : Nat} (hl : LOp P o τ r) (h : ROps P N all rest ((d, r) :: τ) Γ Q) (hw : wantT all τ o = some true := by exact rfl) (hd : o.dst = some d := by exact rfl) (hN : Nat.blt d (N / 2) = true := by exact rfl) : ROps P N all (o :: rest) τ Γ Q := ROps.l hw hd hN hl h
theorem za {d : Nat} {x : Operand} (h : ROps P N all rest ((d, r) :: τ) Γ Q) (hw : wantT all τ o = some true := by exact rfl) (hd : o.dst = some d := by exact rfl) (hN : Nat.blt d (N / 2) = true := by exact rfl) (ho : o.op = .assign x := by exact rfl) (hx : ev τ x = r := by exact rfl) : ROps P N all (o :: rest) τ Γ Q := ROps.l hw hd hN (LOp.assign ho hx) h
theorem zQ {id : Nat} {l : List Oper} {y : Code} (h : ROps P N l.toArray l τ Γ (thenQ (fun τ Γ => RunC P N y τ Γ Q) Q)) : RunC P N (.seq (.region id l.toArray false) y) τ Γ Q := RunC.seq (RunC.regionW h)
theorem zN (h : Q .normal τ Γ) : ROps P N all [] τ Γ Q := ROps.nil h
theorem aR {a : AV} : ALe a a := ALe.refl a
theorem dR {α β : Type} {a : α} {b : β} {p : Prop} : a = a ∧ (p ∨ b = b) := ⟨rfl, .inr rfl⟩
theorem dL {α β : Type} {a : α} {b : β} {p : Prop} : a = a ∧ (b = b ∨ p) := ⟨rfl, .inl rfl⟩
theorem yl {d : Nat} (hd : o.dst = some d) (r : AV) (hl : LOp P o τ r) (h : ROps P N all rest ((d, r) :: τ) Γ Q) (hw : wantT all τ o = some true := by exact rfl) (hN : Nat.blt d (N / 2) = true := by exact rfl) : ROps P N all (o :: rest) τ Γ Q := ROps.l hw hd hN hl h
theorem ym {d : Nat} (hd : o.dst = some d) (r : AV) {x : Operand} (h : ROps P N all rest ((d, r) :: τ) Γ Q) (hw : wantT all τ o = some true := by exact rfl) (hN : Nat.blt d (N / 2) = true := by exact rfl) (ho : o.op = .move x := by exact rfl) (hx : ev τ x = r := by exact rfl) : ROps P N all (o :: rest) τ Γ Q := ROps.l hw hd hN (LOp.move ho hx) h
theorem ya {d : Nat} (hd : o.dst = some d) (r : AV) {x : Operand} (h : ROps P N all rest ((d, r) :: τ) Γ Q) (hw : wantT all τ o = some true := by exact rfl) (hN : Nat.blt d (N / 2) = true := by exact rfl) (ho : o.op = .assign x := by exact rfl) (hx : ev τ x = r := by exact rfl) : ROps P N all (o :: rest) τ Γ Q := ROps.l hw hd hN (LOp.assign ho hx) h
theorem yd {d : Nat} (hd : o.dst = some d) (r : AV) (ht : TOp P o τ Γ r []) (h : ROps P N all rest ((d, r) :: τ) Γ Q) (hw : wantT all τ o = some true := by exact rfl) (hN : Nat.blt d (N / 2) = true := by exact rfl) : ROps P N all (o :: rest) τ Γ Q := ROps.d hw hd hN ht rfl h
theorem ye {d : Nat} {fs : List (Nat × List AV)} (hd : o.dst = some d) (r : AV) (Γ' : List Ob) (ht : TOp P o τ Γ r fs) (h : ROps P N all rest ((d, r) :: τ) Γ' Q) (hw : wantT all τ o = some true := by exact rfl) (hN : Nat.blt d (N / 2) = true := by exact rfl) (hΓ : fillOb Γ fs = Γ' := by exact rfl) : ROps P N all (o :: rest) τ Γ Q := ROps.d hw hd hN ht hΓ h
theorem ys {t : TypeId} {x y : Operand} {n p ver off : Nat} {l ys : List AV} (r : AV) (l' : List AV) (Γ' : List Ob) (hn : ∀ w, (sizeOf t).run P w = .ok n w) (h : ROps P N all rest τ Γ' Q) (hw : wantT all τ o = some true := by exact rfl) (ho : o.op = .store t x y := by exact rfl) (hd : o.dst = none := by exact rfl) (hx : ev τ x = .optr p ver off := by exact rfl) (hy : ∀ S μ v, V S μ (ev τ y) v → V S μ r v := by exact ALe.refl _) (hc : r.cells? = some ys := by exact rfl) (hone : ys.all AV.one = true := by exact rfl) (hlen : ys.length = n := by exact rfl) (hp : Γ[p]? = some ⟨ver, some l⟩ := by exact rfl) (hfit : off + ys.length ≤ l.length := by exact Nat.le_of_ble_eq_true rfl) (hl' : overlay l off ys = l' := by exact rfl) (hΓ : Γ.set p ⟨ver, some l'⟩ = Γ' := by exact rfl) : ROps P N all (o :: rest) τ Γ Q := ROps.store_le hw hn ho hd hx hy hc hone hlen hp hfit hl' hΓ h
theorem yE {f : FuncId} {fn : Func} {c : Code} {args : List AV} (hf : P.funcs[f]? = some fn) (k n g : Nat) (τ : List (Nat × AV)) (Γ' : List Ob) {Γo : List Ob} (hb : fn.body = some c) (h : RunC P n c τ Γ' (bodyQ P fn g r Γo)) (hN : Nat.ble args.length fn.ntmps = true := by exact rfl) (hτ : argClaims 0 args = τ := by exact rfl) (hΓ : Γ ++ List.replicate k ⟨0, none⟩ = Γ' := by exact rfl) (hn : n / 2 = fn.ntmps := by exact rfl) (hg : Γ.length = g := by exact rfl) (hz : n % 2 = 1 → g = 0 := by exact fun _ => rfl) : Ev P f args Γ r Γo := Ev.start hf hb hN k hτ hΓ hn hg hz h
theorem yT {c : Operand} {x y : Code} (h : RunC P N x τ Γ Q) (hc : ev τ c = .x (.bool true) := by exact rfl) : RunC P N (.cond c x y) τ Γ Q := RunC.cond_true hc rfl h
theorem yF {c : Operand} {x y : Code} (h : RunC P N y τ Γ Q) (hc : ev τ c = .x (.bool false) := by exact rfl) : RunC P N (.cond c x y) τ Γ Q := RunC.cond_false hc rfl h
theorem yS {x y : Code} (h : RunC P N x τ Γ (thenQ (fun τ Γ => RunC P N y τ Γ Q) Q)) : RunC P N (.seq x y) τ Γ Q := RunC.seq h
theorem yW {id : Nat} {l : List Oper} (h : ROps P N l.toArray l τ Γ Q) : RunC P N (.region id l.toArray false) τ Γ Q := RunC.regionW h
theorem yB {Γ' : List Ob} {fn : Func} {e : Exit} {k : Nat} {r : AV} (r' : AV) (sel : List (Nat × Nat)) (h : Res P fn τ Γ r') (hs : SelL Γ sel sel Γ') (he : e = .normal ∨ e = .ret := by first | exact .inr rfl | exact .inl rfl) (hk : (List.range k).all (fun i => sel[i]? == some (i, 0)) = true := by exact rfl) (hn : ndB (sel.map (·.1)) = true := by exact rfl) (hr : r.ren (sigma sel) = r' := by exact rfl) (hrl : r.lt sel.length = true := by exact rfl) : bodyQ P fn k r Γ' e τ Γ := bodyQ.mk sel he hk (ndB_ok hn) hr hrl h hs
theorem yc {f : FuncId} {A A' : List AV} {args : Array Operand} {tys : Array TypeId} (hc : ∀ vs w, (callFunc f vs).run P w = .ok (.enter f vs) w) (ho : o.op = .call { callee := .value (.func f), args := args, argTypes := tys }) (hA' : args.toList.map (ev τ) = A) (hA : Bors Γ A A') (hev : Ev P f A' [] r []) (hr : r.lt 0 = true := by exact rfl) (hs : r.nos = true := by exact rfl) : TOp P o τ Γ r [] := TOp.callB (CallAs.func hc ho hA') hA hr hs hev
theorem bP {a : AV} {l l' : List AV} (k : Bors Γ l l') (h : a.lt 0 = true := by exact rfl) : Bors Γ (a :: l) (a :: l') := Bors.cons (Bor.pure h) k
theorem bS {α : Type} {f : α → AV} {n : Nat} {m : List α} {l l' : List AV} (k : Bors Γ l l') (hf : ∀ x, (f x).lt 0 = true := by exact fun _ => rfl) : Bors Γ (.sl n (m.map f) :: l) (.sl n (m.map f) :: l') := Bors.cons (Bor.sl hf) k
theorem bN : Bors Γ [] [] := Bors.nil
theorem bN0 {a : AV} (h : a.lt 0 = true := by exact rfl) : Bors Γ [a] [a] := Bors.cons (Bor.pure h) Bors.nil
theorem yp {c x y : Operand} {r : AV} (ho : o.op = .pick c x y := by exact rfl) (hc : ev τ c = .b false := by exact rfl) (hx : ev τ y = r := by exact rfl) : LOp P o τ r := LOp.pick_false ho hc hx
theorem yq {c x y : Operand} {r : AV} (ho : o.op = .pick c x y := by exact rfl) (hc : ev τ c = .b true := by exact rfl) (hx : ev τ x = r := by exact rfl) : LOp P o τ r := LOp.pick_true ho hc hx
theorem n0 {t : TypeId} {x : Operand} (ho : o.op = .unOp .not t x := by exact rfl) (hx : ev τ x = .b false := by exact rfl) : LOp P o τ (.b true) := LOp.not ho hx
theorem n1 {t : TypeId} {x : Operand} (ho : o.op = .unOp .not t x := by exact rfl) (hx : ev τ x = .b true := by exact rfl) : LOp P o τ (.b false) := LOp.not ho hx
theorem yv {x : Operand} {b b' : Bool} (e : b = b') (ho : o.op = .move x := by exact rfl) (hx : ev τ x = .b b := by exact rfl) : LOp P o τ (.b b') := (LOp.move ho hx).eqb e
theorem yL {t : TypeId} {x : Operand} {n : Nat} {l r : List AV} (hg : ∀ w, (isAgg t).run P w = .ok true w) (hn : ∀ w, (sizeOf t).run P w = .ok n w) (ho : o.op = .load t x := by exact rfl) (hx : ev τ x = .ptr l := by exact rfl) (hr : l.take n = r := by exact rfl) (hl : r.length = n := by exact rfl) : LOp P o τ (.agg r) := LOp.loadAgg hg hn ho hx hr hl
theorem n2 {t : TypeId} {x : Operand} {l : List AV} (hg : ∀ w, (isAgg t).run P w = .ok false w) (ho : o.op = .load t x := by exact rfl) (hx : ev τ x = .ptr (r :: l) := by exact rfl) : LOp P o τ r := LOp.load1 hg ho hx
theorem n3 {x : Operand} {l : List AV} {i : Nat} (ho : o.op = .extract x i := by exact rfl) (hx : ev τ x = .tup l := by exact rfl) (hi : l[i]? = some r := by exact rfl) : LOp P o τ r := LOp.extract ho hx hi
variable {τ' : List (Nat × AV)} {fss : List (List (Nat × List AV))} {bs : List Bool} {n : Nat} {fs : List (Nat × List AV)}
theorem tl {d : Nat} (hd : o.dst = some d) (r : AV) (hl : LOp P o τ r) (h : TRun P all Γ (List.take n rest) ((d, r) :: τ) τ' fss bs) (hw : wantT all τ o = some true := by exact rfl) : TRun P all Γ (List.take (n + 1) (o :: rest)) τ τ' ([] :: fss) (false :: bs) := TR.l hw hd hl h
theorem tm {d : Nat} {x : Operand} (hd : o.dst = some d) (r : AV) (h : TRun P all Γ (List.take n rest) ((d, r) :: τ) τ' fss bs) (hw : wantT all τ o = some true := by exact rfl) (ho : o.op = .move x := by exact rfl) (hx : ev τ x = r := by exact rfl) : TRun P all Γ (List.take (n + 1) (o :: rest)) τ τ' ([] :: fss) (false :: bs) := TR.l hw hd (LOp.move ho hx) h
theorem ts {d : Nat} (hd : o.dst = some d) (h : TRun P all Γ (List.take n rest) ((d, .x undef) :: τ) τ' fss bs) (hw : wantT all τ o = some false := by exact rfl) : TRun P all Γ (List.take (n + 1) (o :: rest)) τ τ' ([] :: fss) (false :: bs) := TR.s hw hd h
theorem oS {α β : Type} {x : Option α} {k : α → Option β} {r : β} (h : obind x k = some r) : ∃ a, x = some a ∧ k a = some r := obind_some h
theorem oB {α : Type} {c : Bool} {x y : Option α} {r : α} (h : bsel c x y = some r) : (c = true ∧ x = some r) ∨ (c = false ∧ y = some r) := bsel_some h
theorem oL {α β : Type} {a : α} {k : α → Option β} {r : β} (h : olet a k = some r) : ∃ x, a = x ∧ k x = some r := olet_some h
theorem oI {α : Type} {a b : α} (h : some a = some b) : a = b := Option.some.inj h
abbrev o0 : Ob := ⟨0, none⟩
abbrev oF (k : Nat) (l : List F) : Ob := ⟨k, some (l.map AV.f32)⟩
abbrev oJ (k : Nat) (l : List Int) : Ob := ⟨k, some (l.map AV.i64)⟩
theorem yR {d : Nat} (hd : o.dst = some d) (h : ROps P N all rest ((d, .x undef) :: τ) Γ Q) (hw : wantT all τ o = some false := by exact rfl) (hN : Nat.blt d (N / 2) = true := by exact rfl) : ROps P N all (o :: rest) τ Γ Q := ROps.s hw hd hN h
theorem bR {fn : Func} {e : Exit} {t : Nat} (hf : fn.results = #[.tmp t]) (h : look τ t = r := by exact rfl) (he : e = .normal ∨ e = .ret := by first | exact .inr rfl | exact .inl rfl) (hr : r.lt 0 = true := by exact rfl) : bodyQ P fn 0 r [] e τ Γ := bodyQ.pure he hr (Res.one hf (RV.tmp h))
theorem sA {sel0 sel : List (Nat × Nat)} {p s : Nat} {l : List F} {Γ' : List Ob} (hp : Γ[p]? = some ⟨s, some (l.map AV.f32)⟩) (h : SelL Γ sel0 sel Γ') : SelL Γ sel0 ((p, s) :: sel) (⟨0, some (l.map AV.f32)⟩ :: Γ') := SelL.arr0 (fun _ => rfl) hp h
theorem yA {t : TypeId} {x : Operand} {p ver off n : Nat} {l r : List AV} (hg : ∀ w, (isAgg t).run P w = .ok true w) (hn : ∀ w, (sizeOf t).run P w = .ok n w) (ho : o.op = .load t x := by exact rfl) (hx : ev τ x = .optr p ver off := by exact rfl) (hp : Γ[p]? = some ⟨ver, some l⟩ := by exact rfl) (hr : (l.drop off).take n = r := by exact rfl) (hl : r.length = n := by exact rfl) : TOp P o τ Γ (.agg r) [] := TOp.loadAgg_o hp hg hn ho hx hr hl
theorem n4 {x : Operand} {l : List AV} (ho : o.op = .nilCheck x := by exact rfl) (hx : ev τ x = .ptr l := by exact rfl) : LOp P o τ (.ptr l) := LOp.nilCheck_ptr ho hx
end
end Go.AM
