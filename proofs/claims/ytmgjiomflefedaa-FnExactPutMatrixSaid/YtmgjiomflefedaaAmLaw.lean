/- The abstract layer, the door: readable arguments are claims; a law's contract is what its row asks. -/
import Derived.Test.YtmgjiomflefedaaAmBind
import Derived.ProofKit
namespace Go.AM
open Go.RowKit Go.ChangeShapes

def snapOf (w : World) : Snap := fun b => match w.heap[b]? with
  | some (.cells cs _ _) => some cs
  | _ => none
theorem snapOf_some {w : World} {b : Nat} {cs : Array Value} (h : snapOf w b = some cs) : ∃ T m, w.heap[b]? = some (.cells cs T m) := by
  unfold snapOf at h
  split at h
  · rename_i cs' T m e; simp at h; subst h; exact ⟨T, m, e⟩
  · cases h
theorem snapOf_wi (w : World) : WI (snapOf w) [] [] w := ⟨fun _ _ h => snapOf_some h, rfl, by simp, by simp, by simp⟩

theorem law_run {P : Program} {f : FuncId} {A : List AV} {vs : Array Value} {W : World} (hev : Ev P f A [] (.b true) []) (hA : VL (snapOf W) [] A vs.toList) : Calls P f vs W fun e w' => e = .returned (.bool true) ∧ Below W.heap.size W w' := by
  refine (hev (snapOf W) [] W vs (snapOf_wi W) hA).mono ?_
  rintro e w' ⟨v, S', μ', rfl, hv, _, hfr⟩
  simp only [V] at hv
  subst hv
  exact ⟨rfl, hfr.os, hfr.tape, hfr.output, hfr.size, fun k hk => hfr.keep k hk (fun i m hi => by simp at hi)⟩

theorem VLn {S : Snap} {μ : List Mu} : VL S μ [] [] := by simp only [VL]
theorem VLc {S : Snap} {μ : List Mu} {a : AV} {v : Value} {l : List AV} {vs : List Value} (h : V S μ a v) (k : VL S μ l vs) : VL S μ (a :: l) (v :: vs) := by simp only [VL]; exact ⟨h, k⟩
/-- Cells that are read at type t are claims of the kind G. -/
def Op1 (P : Program) (t : TypeId) (G : List AV → Prop) : Prop :=
  ∀ (H : Type) (enc : TypeId × Value → H) (w : World) (base : Nat) (spare : Nat → Bool) (held : Bool) (fuel : Nat) (cs : List Value) (x : DataW H × List MemPlace), DataW.trod enc P w base spare held fuel t cs = some x → ∃ l, G l ∧ VL (snapOf w) [] l cs
theorem Op1.mono {P : Program} {t : TypeId} {G G' : List AV → Prop} (h : Op1 P t G) (k : ∀ l, G l → G' l) : Op1 P t G' := fun H enc w b s d n cs x hx => (h H enc w b s d n cs x hx).elim fun l hl => ⟨l, k l hl.1, hl.2⟩
theorem VL.single {S : Snap} {μ : List Mu} {a : AV} {v : Value} (h : V S μ a v) : VL S μ [a] [v] := by simp only [VL]; exact ⟨h, trivial⟩
theorem VL.single_inv {S : Snap} {μ : List Mu} {a : AV} {vs : List Value} (h : VL S μ [a] vs) : ∃ v, vs = [v] ∧ V S μ a v := by
  match vs, h with
  | [], h => simp only [VL] at h
  | [v], h => simp only [VL] at h; exact ⟨v, rfl, h.1⟩
  | _ :: _ :: _, h => simp only [VL] at h; exact absurd h.2 (by simp)
theorem Op1.int {P : Program} {t : TypeId} {k : IntKind} (ht : P.underlying t = some (.int k)) : Op1 P t (fun l => ∃ n : Int, (Lit.int k n).wf = true ∧ l = [.x (.int k n)]) := by
  intro H enc w base spare held fuel cs x h
  obtain ⟨n, rfl, _, hw⟩ := DataW.trod_int ht h
  exact ⟨_, ⟨n, hw, rfl⟩, VL.single (by simp only [V])⟩
theorem Op1.bool {P : Program} {t : TypeId} (ht : P.underlying t = some .bool) : Op1 P t (fun l => ∃ b : Bool, True ∧ l = [.b b]) := by
  intro H enc w base spare held fuel cs x h
  obtain ⟨b, rfl, _⟩ := DataW.trod_bool ht h
  exact ⟨_, ⟨b, trivial, rfl⟩, VL.single (by simp only [V])⟩
theorem Op1.string {P : Program} {t : TypeId} (ht : P.underlying t = some .string) : Op1 P t (fun l => ∃ s : ByteArray, s.size ≤ maxLen ∧ l = [.str s]) := by
  intro H enc w base spare held fuel cs x h
  obtain ⟨b, rfl, _, hs⟩ := DataW.trod_string ht h
  exact ⟨_, ⟨b, hs, rfl⟩, VL.single (by simp only [V])⟩
def FOk (k : FloatKind) (c : F) : Prop := ∃ b, FR k b c
theorem FR.any {k : FloatKind} {b : Nat} (h : b < 2 ^ k.format.width) : ∃ c : F, FR k b c := by
  cases hn : (k.format.read b).isNaN with
  | true => exact ⟨none, h, hn⟩
  | false => exact ⟨some b, rfl, h, hn⟩
theorem trod_float {H : Type} {enc : TypeId × Value → H} {P : Program} {w : World} {base : Nat} {spare : Nat → Bool} {held : Bool} {fuel : Nat} {t : TypeId} {cs : List Value} {x : DataW H × List MemPlace} {k : FloatKind} (ht : P.underlying t = some (.float k)) (h : DataW.trod enc P w base spare held fuel t cs = some x) :
    ∃ b, cs = [.float k b] ∧ (Lit.float k b).wf = true := by
  cases fuel with
  | zero => simp [DataW.trod] at h
  | succ n =>
    unfold DataW.trod at h
    rw [ht] at h
    split at h <;> simp_all
theorem wf_float {k : FloatKind} {b : Nat} (h : (Lit.float k b).wf = true) : b < 2 ^ k.format.width := by
  cases k
  · have : b < 4294967296 := by simpa [Lit.wf, FloatKind.has] using h
    exact this
  · have : b < 18446744073709551616 := by simpa [Lit.wf, FloatKind.has] using h
    exact this
theorem Op1.float {P : Program} {t : TypeId} {k : FloatKind} (ht : P.underlying t = some (.float k)) : Op1 P t (fun l => ∃ c : F, FOk k c ∧ l = [.f k c]) := by
  intro H enc w base spare held fuel cs x h
  obtain ⟨b, rfl, hw⟩ := trod_float ht h
  obtain ⟨c, hc⟩ := FR.any (wf_float hw)
  exact ⟨_, ⟨c, ⟨b, hc⟩, rfl⟩, VL.single (by simp only [V]; exact ⟨b, rfl, hc⟩)⟩
theorem exists_list {α : Type} {Q : Nat → α → Prop} : ∀ (n : Nat), (∀ i, i < n → ∃ z, Q i z) → ∃ L : List α, L.length = n ∧ ∀ i z, L[i]? = some z → Q i z
  | 0, _ => ⟨[], rfl, by simp⟩
  | n + 1, h => by
    obtain ⟨L, h1, h2⟩ := exists_list n (fun i hi => h i (by omega))
    obtain ⟨z, hz⟩ := h n (by omega)
    refine ⟨L ++ [z], by simp [h1], fun i y hy => ?_⟩
    rcases Nat.lt_or_ge i L.length with hi | hi
    · rw [List.getElem?_append_left hi] at hy; exact h2 i y hy
    · rw [List.getElem?_append_right hi] at hy
      have := lt_of_getElem? hy
      simp at this
      have e : i = n := by omega
      subst e
      rw [h1] at hy
      simp at hy
      subst hy; exact hz
theorem VP.of_each {α : Type} {S : Snap} {μ : List Mu} {f : α → AV} : ∀ (L : List α) (vs : List Value), (∀ (i : Nat) (z : α), L[i]? = some z → ∃ c, vs[i]? = some c ∧ V S μ (f z) c) → VP S μ (L.map f) vs
  | [], _, _ => by simp only [List.map_nil, VP]
  | z :: L, vs, h => by
    obtain ⟨c, h1, h2⟩ := h 0 z rfl
    cases vs with
    | nil => simp at h1
    | cons v vs =>
      simp at h1
      subst h1
      simp only [List.map_cons, VP]
      exact ⟨h2, VP.of_each L vs fun i y hy => by simpa using h (i + 1) y (by simpa using hy)⟩
theorem Op1.slice {α : Type} {P : Program} {t e : TypeId} {f : α → AV} {good : α → Prop} (ht : P.underlying t = some (.slice e)) (hc : P.cellsOf e = 1) (he : Op1 P e (fun l => ∃ z, good z ∧ l = [f z])) :
    Op1 P t (fun l => ∃ L : List α, ((∀ z ∈ L, good z) ∧ L.length ≤ maxLen) ∧ l = [.sl L.length (L.map f)]) := by
  intro H enc w base spare held fuel cs x h
  rcases DataW.trod_slice ht h with ⟨rfl, _⟩ | ⟨a, len, cap, elems, rest, n, rfl, rfl, _, hb, hl, hm, hlen, hel, _, _⟩
  · exact ⟨_, ⟨[], ⟨by simp, by simp⟩, rfl⟩, VL.single (by simp only [V]; exact ⟨none, 0, rfl, Nat.le_refl _, .inl rfl⟩)⟩
  · have each : ∀ i, i < len → ∃ z, good z ∧ ∃ c, w.cell? (a.add i) = some c ∧ V (snapOf w) [] (f z) c := by
      intro i hi
      have h1 := hel i hi
      have h2 : ∃ y, elems[i]? = some y := getElem?_of_lt (by omega)
      obtain ⟨y, hy⟩ := h2
      rw [hy, hc, Nat.mul_one, Option.bind_eq_some_iff] at h1
      obtain ⟨cs', k1, k2⟩ := h1
      obtain ⟨l, ⟨z, hz, rfl⟩, k3⟩ := he H enc w base spare held n cs' y k2
      obtain ⟨c, rfl, k4⟩ := VL.single_inv k3
      exact ⟨z, hz, c, cell_of_cells?_one k1, k4⟩
    obtain ⟨L, hL, hLQ⟩ := exists_list (Q := fun i z => good z ∧ ∃ c, w.cell? (a.add i) = some c ∧ V (snapOf w) [] (f z) c) len each
    refine ⟨_, ⟨L, ⟨fun z hz => ?_, by omega⟩, rfl⟩, VL.single ?_⟩
    · obtain ⟨i, hi⟩ := List.getElem?_of_mem hz
      exact (hLQ i z hi).1
    · simp only [V]
      refine ⟨some a, cap, by rw [hL], by omega, ?_⟩
      by_cases h0 : len = 0
      · left
        have : L = [] := List.eq_nil_of_length_eq_zero (by omega)
        rw [this]; rfl
      · right
        obtain ⟨z, _, c, hc0, _⟩ := each 0 (by omega)
        obtain ⟨ab, ao, asp⟩ := a
        have hsp : asp = none := by
          cases asp with
          | none => rfl
          | some s => simp [World.cell?, Addr.add] at hc0; split at hc0 <;> simp_all
        subst hsp
        simp only [Addr.add_mk] at hc0 hLQ
        cases hh : w.heap[ab]? with
        | none => simp [World.cell?, hh] at hc0
        | some ob =>
          cases ob with
          | cells cs T m =>
            refine ⟨ab, ao, cs, rfl, by simp [snapOf, hh], VP.of_each L _ fun i z hz => ?_⟩
            obtain ⟨_, c', k1, k2⟩ := hLQ i z hz
            refine ⟨c', ?_, k2⟩
            simp [World.cell?, hh] at k1
            rw [List.getElem?_drop]
            simpa using k1
          | _ => simp [World.cell?, hh] at hc0

/-- Field after field. -/
def GS : List (List AV → Prop) → List AV → Prop
  | [], l => l = []
  | G :: Gs, l => ∃ a b, G a ∧ GS Gs b ∧ l = a ++ b
def FieldsOp (P : Program) : List Field → Nat → List (List AV → Prop) → Prop
  | [], _, [] => True
  | f :: fs, off, G :: Gs => f.offset = off ∧ Op1 P f.type G ∧ FieldsOp P fs (off + P.cellsOf f.type) Gs
  | _, _, _ => False
def cellsSum (P : Program) (fs : List Field) : Nat := (fs.map fun f => P.cellsOf f.type).sum
theorem trod_len {H : Type} {enc : TypeId × Value → H} {P : Program} {w : World} {base : Nat} {spare : Nat → Bool} {held : Bool} {n : Nat} : ∀ {fs : List Field} {off : Nat} {Gs : List (List AV → Prop)} {cs : List Value} (_ : FieldsOp P fs off Gs) (_ : ∀ f ∈ fs, ∃ x, DataW.trod enc P w base spare held n f.type ((cs.drop f.offset).take (P.cellsOf f.type)) = some x) (_ : cs.length = off + cellsSum P fs),
    ∃ l, GS Gs l ∧ VL (snapOf w) [] l (cs.drop off)
  | [], off, [], cs, _, _, hl => by
    refine ⟨[], rfl, ?_⟩
    have : cs.drop off = [] := List.drop_eq_nil_of_le (by simp [cellsSum] at hl; omega)
    rw [this]; simp only [VL]
  | f :: fs, off, G :: Gs, cs, hf, hx, hl => by
    obtain ⟨h1, h2, h3⟩ := hf
    subst h1
    obtain ⟨x, hx1⟩ := hx f (by simp)
    obtain ⟨a, k1, k2⟩ := h2 _ _ _ _ _ _ _ _ _ hx1
    simp only [cellsSum, List.map_cons, List.sum_cons] at hl
    obtain ⟨b, k3, k4⟩ := trod_len (off := f.offset + P.cellsOf f.type) h3 (fun g hg => hx g (by simp [hg])) (by simp only [cellsSum]; omega)
    refine ⟨a ++ b, ⟨a, b, k1, k3, rfl⟩, ?_⟩
    have : cs.drop f.offset = (cs.drop f.offset).take (P.cellsOf f.type) ++ cs.drop (f.offset + P.cellsOf f.type) := by rw [← List.drop_drop, List.take_append_drop]
    rw [this]
    exact VL.app k2 k4
  | [], _, _ :: _, _, h, _, _ => h.elim
  | _ :: _, _, [], _, h, _, _ => h.elim
theorem Op1.struct {P : Program} {t : TypeId} {fs : Array Field} {Gs : List (List AV → Prop)} (ht : P.underlying t = some (.struct fs)) (hc : P.cellsOf t = cellsSum P fs.toList) (hf : FieldsOp P fs.toList 0 Gs) : Op1 P t (GS Gs) := by
  intro H enc w base spare held fuel cs x h
  obtain ⟨xs, n, rfl, _, hl, hxs, hx⟩ := DataW.trod_struct ht h
  obtain ⟨l, k1, k2⟩ := trod_len (n := n) (cs := cs) hf (fun f hf => by
    obtain ⟨i, hi⟩ := List.getElem?_of_mem hf
    have hi' : fs[i]? = some f := by simpa using hi
    obtain ⟨y, hy⟩ : ∃ y, xs[i]? = some y := getElem?_of_lt (by rw [hxs]; exact (Array.getElem?_eq_some_iff.1 hi').1)
    exact ⟨y, by rw [hx i f hi', hy]⟩) (by rw [hl, hc]; simp)
  exact ⟨l, k1, by simpa using k2⟩

/-- An argument. -/
theorem open_struct {base : Nat} {H : Type} {enc : TypeId × Value → H} {P : Program} {W : World} {t : TypeId} {v : Value} {d : DataW H} {ps : List MemPlace} {fs : Array Field} {G : List AV → Prop} (ht : P.underlying t = some (.struct fs)) (hG : Op1 P t G) (hv : Value.okWide P W .any base t v) (h : DataW.Trod enc P W 0 (fun _ => true) true t v d ps) :
    ∃ l, G l ∧ V (snapOf W) [] (.agg l) v := by
  obtain ⟨cs, rfl, _⟩ := WideShapes.okWide_struct ht hv
  obtain ⟨fuel, h⟩ := h
  obtain ⟨l, h1, h2⟩ := hG _ _ _ _ _ _ _ _ _ h
  refine ⟨l, h1, ?_⟩
  simp only [V]
  exact ⟨cs, rfl, by simpa [Value.cells] using h2⟩
theorem open_one {H : Type} {enc : TypeId × Value → H} {P : Program} {W : World} {t : TypeId} {v : Value} {d : DataW H} {ps : List MemPlace} {α : Type} {f : α → AV} {good : α → Prop} (hcell : v.cells = #[v]) (hG : Op1 P t (fun l => ∃ z, good z ∧ l = [f z])) (h : DataW.Trod enc P W 0 (fun _ => true) true t v d ps) :
    ∃ z, good z ∧ V (snapOf W) [] (f z) v := by
  obtain ⟨fuel, h⟩ := h
  obtain ⟨l, ⟨z, hz, rfl⟩, h2⟩ := hG _ _ _ _ _ _ _ _ _ h
  rw [hcell] at h2
  obtain ⟨c, e, h3⟩ := VL.single_inv h2
  simp at e
  subst e
  exact ⟨z, hz, h3⟩
theorem cells_int {base : Nat} {P : Program} {W : World} {t : TypeId} {k : IntKind} {v : Value} (ht : P.underlying t = some (.int k)) (hv : Value.okWide P W .any base t v) : v.cells = #[v] := by
  obtain ⟨n, rfl⟩ := WideShapes.okWide_int ht hv; rfl
theorem cells_slice {base : Nat} {P : Program} {W : World} {t e : TypeId} {v : Value} (ht : P.underlying t = some (.slice e)) (hv : Value.okWide P W .any base t v) : v.cells = #[v] := by
  obtain ⟨a, n, c, rfl⟩ := WideShapes.okWide_slice ht hv; rfl

/-- The arguments read behind the call as they did. -/
theorem trodAll_stays {H : Type} {enc : TypeId × Value → H} {P : Program} (hl : laidOutB P = true) {W W' : World} (hb : Below W.heap.size W W') : ∀ {ts : List TypeId} {vs : List Value} {ds : List (DataW H)} {ps : List MemPlace}, (∀ t ∈ ts, P.readableRec t = true ∧ t < P.types.size) →
    DataW.TrodAll enc P W 0 (fun _ => true) true ts vs ds ps → (∀ x ∈ ps, x.block < W.heap.size) → DataW.TrodAll enc P W' 0 (fun b => decide (b < W.heap.size)) true ts vs ds ps
  | [], [], [], _, _, h, _ => h
  | t :: ts, v :: vs, d :: ds, ps, hr, h, hlt => by
    obtain ⟨p, q, h1, h2, rfl⟩ := h
    exact ⟨p, q, Below.trod hl (hr t (by simp)).1 (hr t (by simp)).2 h1 hb (fun x hx => hlt x (by simp [hx])), trodAll_stays hl hb (fun t ht => hr t (by simp [ht])) h2 (fun x hx => hlt x (by simp [hx])), rfl⟩
  | [], [], _ :: _, _, _, h, _ => h.elim
  | [], _ :: _, _, _, _, h, _ => by cases h
  | _ :: _, [], _, _, _, h, _ => by cases h
  | _ :: _, _ :: _, [], _, _, h, _ => by cases h

/-- What a law's row asks behind the call. -/
theorem law_post {H : Type} {enc : TypeId × Value → H} {P : Program} {f : Func} {s : ChangeSpec} {W W' : World} {args : Array Value} {ds : List (DataW H)} {before : List MemPlace} {t : TypeId}
    (hW : DataW.Whole enc P f.params.toList s.vars false W args.toList ds [] before) (hs : s.vars = []) (hfn : s.fn H (ds ++ []) = { results := [.lit (.bool true)], args := ds }) (hr : f.resultTypes = #[t]) (ht : P.underlying t = some .bool)
    (hl : laidOutB P = true) (hp : ∀ t ∈ f.params.toList, P.readableRec t = true ∧ t < P.types.size) (hb : Below W.heap.size W W') : s.post enc P f false true false false W args (.bool true) W' := by
  have hlt : ∀ x ∈ before, x.block < W.heap.size := fun x hx => hW.lt x hx
  have hW2 := hW
  obtain ⟨p, q, hA, hV, rfl, _, _⟩ := hW
  rw [hs] at hV
  have hq : q = [] := hV
  subst hq
  refine ⟨ds, [], p ++ [], [], p, [], hW2, ?_, ?_, ?_, hb.frame _, fun h => by cases h⟩
  · rw [hfn, hr]
    exact trodAll_mk1 (shut_bool ht true)
  · rw [hfn]
    exact trodAll_stays hl hb hp hA (fun x hx => hlt x (by simp [hx]))
  · rw [hs, hfn]; rfl
end Go.AM
