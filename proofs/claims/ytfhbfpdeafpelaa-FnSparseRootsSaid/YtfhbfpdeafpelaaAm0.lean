/- The abstract layer, part 0. -/
import Derived.OrdersHeld
import Derived.Laws.FloatArith
import Derived.StillTail
import Derived.WalkKit
import Derived.WalkLawsBesides
import Derived.Laws.Rows
import Derived.Laws.ComplexArith
set_option linter.unusedVariables false
namespace Go.AM
abbrev F := Option Nat
def FR (k : FloatKind) (b : Nat) : F → Prop
 | some c => b = c ∧ c < 2 ^ k.format.width ∧ (k.format.read c).isNaN = false
 | none => b < 2 ^ k.format.width ∧ (k.format.read b).isNaN = true
inductive AV where
 | x (v : Value)
 | f (k : FloatKind) (c : F)
 | cx (k : FloatKind) (re im : F)
 | bt (k : FloatKind) (ik : IntKind) (c : F)
 | sl (n : Nat) (l : List AV)
 | agg (l : List AV)
 | tup (l : List AV)
 | ptr (l : List AV)
 | fn (g : Fn) (p q : List AV)
 | oref (o ver off len : Nat) -- off: cells of an element, less one
 | optr (o ver off : Nat)
 | mref (o ver : Nat)
 | itr (o ver : Nat)
 | any
 | nni
 deriving Inhabited
structure Mu where
 ver : Nat
 blk : Option Nat
 sz : Nat
 es : Nat
 mp : Bool
structure Ob where
 ver : Nat
 cells : Option (List AV)
def globs : List (Nat × Array Value) := []
def globsI : List Nat := []
def GP (f : Nat → Option (Array Value)) : Prop := (∀ p ∈ globs, f p.1 = some p.2) ∧ ∀ g ∈ globsI, ∃ v, f g = some #[v] ∧ (v = .nilIface ∨ ∃ t p, v = .iface t p)
def Snap : Type := { f : Nat → Option (Array Value) // GP f }
theorem GP.mono {f f' : Nat → Option (Array Value)} (h : ∀ b c, f b = some c → f' b = some c) (k : GP f) : GP f' :=
 ⟨fun p hp => h _ _ (k.1 p hp), fun g hg => (k.2 g hg).elim fun v hv => ⟨v, h _ _ hv.1, hv.2⟩⟩
instance : CoeFun Snap fun _ => Nat → Option (Array Value) := ⟨Subtype.val⟩
mutual
def V (S : Snap) (μ : List Mu) : AV → Value → Prop
 | .x u, v => v = u
 | .f k c, v => ∃ b, v = .float k b ∧ FR k b c
 | .cx k r i, v => ∃ a b, v = .complex k a b ∧ FR k a r ∧ FR k b i
 | .bt k ik c, v => ∃ b : Nat, v = .int ik b ∧ FR k b c
 | .sl n l, v => ∃ a cap, v = .slice a n cap ∧ n ≤ cap ∧ (l = [] ∨ ∃ b off cs, a = some ⟨b, off, none⟩ ∧ S b = some cs ∧ VP S μ l (cs.toList.drop off))
 | .agg l, v => ∃ cs, v = .agg cs ∧ VL S μ l cs.toList
 | .tup l, v => ∃ cs, v = .tuple cs ∧ VL S μ l cs.toList
 | .ptr l, v => ∃ b off cs, v = .pointer (some ⟨b, off, none⟩) ∧ S b = some cs ∧ VP S μ l (cs.toList.drop off)
 | .fn g p q, v => ∃ ps qs, v = .func g ps qs ∧ VL S μ p ps.toList ∧ VL S μ q qs.toList
 | .oref o ver off len, v => ∃ m a cap, μ[o]? = some m ∧ ver ≤ m.ver ∧ v = .slice a len cap ∧ (m.ver = ver → match m.blk with
   | some b => a = some ⟨b, 0, none⟩ ∧ len ≤ cap ∧ cap * (off + 1) ≤ m.sz ∧ m.mp = false
   | none => cap = 0 ∧ True ∧ len = 0)
 | .optr o ver off, v => ∃ m a, μ[o]? = some m ∧ ver ≤ m.ver ∧ v = .pointer (some a) ∧ (m.ver = ver → ∃ b, m.blk = some b ∧ a = ⟨b, off, none⟩ ∧ m.mp = false)
 | .mref o ver, v => ∃ m b, μ[o]? = some m ∧ ver ≤ m.ver ∧ v = .map (some b) ∧ (m.ver = ver → m.blk = some b ∧ m.mp = true)
 | .itr o ver, v => ∃ m b, μ[o]? = some m ∧ ver ≤ m.ver ∧ v = .pointer (some ⟨b, 0, none⟩) ∧ (m.ver = ver → m.blk = some b ∧ m.mp = true)
 | .any, _ => True
 | .nni, v => ∃ t p, v = .iface t p
def VP (S : Snap) (μ : List Mu) : List AV → List Value → Prop
 | [], _ => True
 | a :: l, v :: vs => V S μ a v ∧ VP S μ l vs
 | _ :: _, [] => False
def VL (S : Snap) (μ : List Mu) : List AV → List Value → Prop
 | [], [] => True
 | a :: l, v :: vs => V S μ a v ∧ VL S μ l vs
 | _, _ => False
end
def SExt (S S' : Snap) : Prop := ∀ b c, S b = some c → S' b = some c
def MuLe (B : Nat) (μ μ' : List Mu) : Prop :=
 ∀ (i : Nat) (m : Mu), μ[i]? = some m → ∃ m' : Mu, μ'[i]? = some m' ∧ m.ver ≤ m'.ver ∧ (m'.ver = m.ver → m' = m) ∧ (∀ b, m'.blk = some b → m.blk = some b ∨ B ≤ b)
theorem SExt.refl (S : Snap) : SExt S S := fun _ _ h => h
theorem SExt.trans {S S' S'' : Snap} (h : SExt S S') (k : SExt S' S'') : SExt S S'' := fun b c e => k b c (h b c e)
theorem MuLe.refl (B : Nat) (μ : List Mu) : MuLe B μ μ := fun _ m h => ⟨m, h, Nat.le_refl _, fun _ => rfl, fun _ hb => .inl hb⟩
theorem MuLe.trans {B B' : Nat} {μ μ' μ'' : List Mu} (h : MuLe B μ μ') (k : MuLe B' μ' μ'') (hB : B ≤ B') : MuLe B μ μ'' := by
 intro i m hm
 obtain ⟨m', h1, h2, h3, h4⟩ := h i m hm
 obtain ⟨m'', k1, k2, k3, k4⟩ := k i m' h1
 refine ⟨m'', k1, Nat.le_trans h2 k2, fun e => ?_, fun b hb => ?_⟩
 ·have e1 : m''.ver = m'.ver := by omega
  have e2 := k3 e1
  subst e2
  exact h3 e
 ·rcases k4 b hb with hb' | hb'
  ·exact h4 b hb'
  ·exact .inr (by omega)
theorem MuLe.append (B : Nat) (μ r : List Mu) : MuLe B μ (μ ++ r) := by
 intro i m hm
 have hi : i < μ.length := by
  rcases Nat.lt_or_ge i μ.length with h | h
  ·exact h
  ·simp [List.getElem?_eq_none h] at hm
 exact ⟨m, by rw [List.getElem?_append_left hi]; exact hm, Nat.le_refl _, fun _ => rfl, fun _ hb => .inl hb⟩
mutual
theorem V.mono {S S' : Snap} {B : Nat} {μ μ' : List Mu} (hS : SExt S S') (hm : MuLe B μ μ') : ∀ (a : AV) (v : Value), V S μ a v → V S' μ' a v
 | .x _, _, h => by simpa only [V] using h
 | .f _ _, _, h => by simpa only [V] using h
 | .cx _ _ _, _, h => by simpa only [V] using h
 | .bt _ _ _, _, h => by simpa only [V] using h
 | .sl n l, v, h => by
  simp only [V] at h ⊢
  obtain ⟨a, cap, h1, h2, h3⟩ := h
  refine ⟨a, cap, h1, h2, ?_⟩
  rcases h3 with h3 | ⟨b, off, cs, h4, h5, h6⟩
  ·exact .inl h3
  ·exact .inr ⟨b, off, cs, h4, hS _ _ h5, VP.mono hS hm l _ h6⟩
 | .agg l, v, h => by
  simp only [V] at h ⊢
  obtain ⟨cs, h1, h2⟩ := h
  exact ⟨cs, h1, VL.mono hS hm l _ h2⟩
 | .tup l, v, h => by
  simp only [V] at h ⊢
  obtain ⟨cs, h1, h2⟩ := h
  exact ⟨cs, h1, VL.mono hS hm l _ h2⟩
 | .ptr l, v, h => by
  simp only [V] at h ⊢
  obtain ⟨b, off, cs, h1, h2, h3⟩ := h
  exact ⟨b, off, cs, h1, hS _ _ h2, VP.mono hS hm l _ h3⟩
 | .fn g p q, v, h => by
  simp only [V] at h ⊢
  obtain ⟨ps, qs, h1, h2, h3⟩ := h
  exact ⟨ps, qs, h1, VL.mono hS hm p _ h2, VL.mono hS hm q _ h3⟩
 | .oref o ver off len, v, h => by
  simp only [V] at h ⊢
  obtain ⟨m, a, cap, h1, h2, h3, h4⟩ := h
  obtain ⟨m', k1, k2, k3, _⟩ := hm o m h1
  refine ⟨m', a, cap, k1, Nat.le_trans h2 k2, h3, fun e => ?_⟩
  have e1 : m'.ver = m.ver := by omega
  have e2 := k3 e1
  subst e2
  exact h4 e
 | .optr o ver off, v, h => by
  simp only [V] at h ⊢
  obtain ⟨m, a, h1, h2, h3, h4⟩ := h
  obtain ⟨m', k1, k2, k3, _⟩ := hm o m h1
  refine ⟨m', a, k1, Nat.le_trans h2 k2, h3, fun e => ?_⟩
  have e1 : m'.ver = m.ver := by omega
  have e2 := k3 e1
  subst e2
  exact h4 e
 | .mref o ver, v, h => by
  simp only [V] at h ⊢
  obtain ⟨m, a, h1, h2, h3, h4⟩ := h
  obtain ⟨m', k1, k2, k3, _⟩ := hm o m h1
  refine ⟨m', a, k1, Nat.le_trans h2 k2, h3, fun e => ?_⟩
  have e1 : m'.ver = m.ver := by omega
  have e2 := k3 e1
  subst e2
  exact h4 e
 | .itr o ver, v, h => by
  simp only [V] at h ⊢
  obtain ⟨m, a, h1, h2, h3, h4⟩ := h
  obtain ⟨m', k1, k2, k3, _⟩ := hm o m h1
  refine ⟨m', a, k1, Nat.le_trans h2 k2, h3, fun e => ?_⟩
  have e1 : m'.ver = m.ver := by omega
  have e2 := k3 e1
  subst e2
  exact h4 e
 | .any, _, _ => by simp only [V]
 | .nni, _, h => by simpa only [V] using h
theorem VP.mono {S S' : Snap} {B : Nat} {μ μ' : List Mu} (hS : SExt S S') (hm : MuLe B μ μ') : ∀ (l : List AV) (vs : List Value), VP S μ l vs → VP S' μ' l vs
 | [], _, _ => by simp only [VP]
 | a :: l, v :: vs, h => by
  simp only [VP] at h ⊢
  exact ⟨V.mono hS hm a v h.1, VP.mono hS hm l vs h.2⟩
 | _ :: _, [], h => by simp only [VP] at h
theorem VL.mono {S S' : Snap} {B : Nat} {μ μ' : List Mu} (hS : SExt S S') (hm : MuLe B μ μ') : ∀ (l : List AV) (vs : List Value), VL S μ l vs → VL S' μ' l vs
 | [], [], _ => by simp only [VL]
 | a :: l, v :: vs, h => by
  simp only [VL] at h ⊢
  exact ⟨V.mono hS hm a v h.1, VL.mono hS hm l vs h.2⟩
 | [], _ :: _, h => by simp only [VL] at h
 | _ :: _, [], h => by simp only [VL] at h
end
theorem VL.vp {S : Snap} {μ : List Mu} : ∀ {l : List AV} {vs : List Value}, VL S μ l vs → VP S μ l vs
 | [], _, _ => by simp only [VP]
 | a :: l, v :: vs, h => by
  simp only [VL] at h
  simp only [VP]
  exact ⟨h.1, VL.vp h.2⟩
 | _ :: _, [], h => by simp only [VL] at h
theorem VL.length {S : Snap} {μ : List Mu} : ∀ {l : List AV} {vs : List Value}, VL S μ l vs → vs.length = l.length
 | [], [], _ => rfl
 | _ :: l, _ :: vs, h => by
  simp only [VL] at h
  simp [VL.length h.2]
 | [], _ :: _, h => by simp only [VL] at h
 | _ :: _, [], h => by simp only [VL] at h
theorem VP.length {S : Snap} {μ : List Mu} : ∀ {l : List AV} {vs : List Value}, VP S μ l vs → l.length ≤ vs.length
 | [], _, _ => Nat.zero_le _
 | _ :: l, _ :: vs, h => by
  simp only [VP] at h
  have := VP.length h.2
  simp; omega
 | _ :: _, [], h => by simp only [VP] at h
theorem VP.get {S : Snap} {μ : List Mu} : ∀ {l : List AV} {vs : List Value} {i : Nat} {a : AV}, VP S μ l vs → l[i]? = some a → ∃ v, vs[i]? = some v ∧ V S μ a v
 | [], _, _, _, _, h => by simp at h
 | b :: l, v :: vs, 0, a, h, e => by
  simp only [VP] at h
  simp at e
  subst e
  exact ⟨v, rfl, h.1⟩
 | b :: l, v :: vs, i + 1, a, h, e => by
  simp only [VP] at h
  simp at e
  simpa using VP.get h.2 e
 | _ :: _, [], _, _, h, _ => by simp only [VP] at h
theorem VL.get {S : Snap} {μ : List Mu} {l : List AV} {vs : List Value} {i : Nat} {a : AV} (h : VL S μ l vs) (e : l[i]? = some a) : ∃ v, vs[i]? = some v ∧ V S μ a v := h.vp.get e
theorem VP.drop {S : Snap} {μ : List Mu} : ∀ {l : List AV} {vs : List Value} (i : Nat), VP S μ l vs → VP S μ (l.drop i) (vs.drop i)
 | l, vs, 0, h => by simpa using h
 | [], _, i + 1, _ => by simp only [List.drop_nil, VP]
 | b :: l, w :: vs, i + 1, h => by
  simp only [VP] at h
  simpa using VP.drop i h.2
 | _ :: _, [], _ + 1, h => by simp only [VP] at h
theorem VP.take {S : Snap} {μ : List Mu} : ∀ {l : List AV} {vs : List Value} (i : Nat), VP S μ l vs → VP S μ (l.take i) vs
 | l, vs, 0, h => by simp only [List.take_zero, VP]
 | [], _, i + 1, _ => by simp only [List.take_nil, VP]
 | b :: l, w :: vs, i + 1, h => by
  simp only [VP] at h
  simp only [List.take_succ_cons, VP]
  exact ⟨h.1, VP.take i h.2⟩
 | _ :: _, [], _ + 1, h => by simp only [VP] at h
theorem VP.app {S : Snap} {μ : List Mu} : ∀ {l l' : List AV} {vs vs' : List Value}, VL S μ l vs → VP S μ l' vs' → VP S μ (l ++ l') (vs ++ vs')
 | [], _, [], _, _, h' => by simpa using h'
 | a :: l, l', v :: vs, vs', h, h' => by
  simp only [VL] at h
  simp only [List.cons_append, VP]
  exact ⟨h.1, VP.app h.2 h'⟩
 | [], _, _ :: _, _, h, _ => by simp only [VL] at h
 | _ :: _, _, [], _, h, _ => by simp only [VL] at h
theorem VL.app {S : Snap} {μ : List Mu} : ∀ {l l' : List AV} {vs vs' : List Value}, VL S μ l vs → VL S μ l' vs' → VL S μ (l ++ l') (vs ++ vs')
 | [], _, [], _, _, h' => by simpa using h'
 | a :: l, l', v :: vs, vs', h, h' => by
  simp only [VL] at h
  simp only [List.cons_append, VL]
  exact ⟨h.1, VL.app h.2 h'⟩
 | [], _, _ :: _, _, h, _ => by simp only [VL] at h
 | _ :: _, _, [], _, h, _ => by simp only [VL] at h
theorem VP.vl_take {S : Snap} {μ : List Mu} : ∀ {l : List AV} {vs : List Value}, VP S μ l vs → VL S μ l (vs.take l.length)
 | [], _, _ => by simp only [List.length_nil, List.take_zero, VL]
 | a :: l, v :: vs, h => by
  simp only [VP] at h
  simp only [List.length_cons, List.take_succ_cons, VL]
  exact ⟨h.1, VP.vl_take h.2⟩
 | _ :: _, [], h => by simp only [VP] at h
theorem VL.of_vp {S : Snap} {μ : List Mu} {l : List AV} {vs : List Value} (h : VP S μ l vs) (e : vs.length = l.length) : VL S μ l vs := by
 have := h.vl_take
 rwa [← e, List.take_length] at this
def look : List (Nat × AV) → Nat → AV
 | [], _ => .any
 | (d, v) :: r, t => if d = t then v else look r t
def put (τ : List (Nat × AV)) (dst : Option Tmp) (v : AV) : List (Nat × AV) := match dst with
 | some d => (d, v) :: τ
 | none => τ
def CI (S : Snap) (μ : List Mu) (τ : List (Nat × AV)) (a : Act) : Prop := ∀ t, V S μ (look τ t) (a.tmps.getD t undef)
def mval (e : MapEntry) : Value := .agg #[e.key, e.val]
def BornOk (es : List MapEntry) (clk : Nat) : Prop := es.Pairwise (fun a b => a.born < b.born) ∧ ∀ e ∈ es, e.born < clk
def pk (a b : Int) : Value := .agg #[.int .i64 a, .int .i64 b]
def encE (es : List MapEntry) : Value := .tuple (es.map fun e => Value.tuple #[e.key, e.val, .int .i64 e.born]).toArray
structure MapOk (es : List MapEntry) (clk : Nat) (es' : List MapEntry) (mk : Array Value) : Prop where
 bn : BornOk es clk
 kd : es.Pairwise (fun a b => a.key ≠ b.key)
 pm : es'.Perm es
 sp : ∀ s a b : Int, mk = #[.int .i64 s, .int .i64 a, .int .i64 b] → ∃ e ∈ es, e.key = pk a b ∧ (e.born : Int) = s
 ex : ∀ (es0 : List MapEntry) (clk0 : Nat), mk = #[encE es0, .int .i64 clk0] → es = es0 ∧ clk = clk0
def Img (o : Obj) (m : Mu) (cs : Array Value) : Prop := match m.mp with
 | false => (∃ T, o = .cells cs T (0, 0)) ∧ cs.size = m.sz
 | true => (∃ es clk es' mk, o = .map es clk ∧ MapOk es.toList clk es' mk ∧ cs.toList = es'.map mval ++ [.tuple mk]) ∨
  (∃ mb since seen last ds, o = .mapIter (some mb) since seen last ∧ seen.toList = ds.map (·.born) ∧ cs.toList = [.map (some mb), encE ds, .int .i64 (since : Nat), .int .i64 (last : Nat)])
theorem Img.ver {o : Obj} {m m' : Mu} {cs : Array Value} (e : m'.sz = m.sz ∧ m'.mp = m.mp) (h : Img o m cs) : Img o m' cs := by
 unfold Img at *
 rw [e.1, e.2]
 exact h
theorem Img.cells {o : Obj} {m : Mu} {cs : Array Value} (hm : m.mp = false) (h : Img o m cs) : (∃ T, o = .cells cs T (0, 0)) ∧ cs.size = m.sz := by
 unfold Img at h
 rw [hm] at h
 exact h
def OwnAt (S : Snap) (μ : List Mu) (w : World) (l : List AV) (m : Mu) : Prop := match m.blk with
 | none => l = []
 | some b => S b = none ∧ ∃ cs T, w.heap[b]? = some T ∧ Img T m cs ∧ VP S μ l cs.toList
structure WI (S : Snap) (μ : List Mu) (Γ : List Ob) (w : World) : Prop where
 snap : ∀ b cs, S b = some cs → ∃ T m, w.heap[b]? = some (.cells cs T m)
 len : μ.length = Γ.length
 ver : ∀ (o : Nat) (g : Ob) (m : Mu), Γ[o]? = some g → μ[o]? = some m → m.ver = g.ver
 own : ∀ (o ver : Nat) (l : List AV) (m : Mu), Γ[o]? = some ⟨ver, some l⟩ → μ[o]? = some m → OwnAt S μ w l m
 sep : ∀ (o o' : Nat) (g g' : Ob) (m m' : Mu) (b : Nat), Γ[o]? = some g → g.cells.isSome = true → Γ[o']? = some g' → g'.cells.isSome = true → μ[o]? = some m → μ[o']? = some m' → m.blk = some b → m'.blk = some b → o = o'
structure Grow (w w' : World) : Prop where
 size : w.heap.size ≤ w'.heap.size
 block : ∀ b, b < w.heap.size → w'.heap[b]? = w.heap[b]?
 os : w'.os = w.os
 tape : w'.tape = w.tape
 output : w'.output = w.output
theorem Grow.refl (w : World) : Grow w w := ⟨Nat.le_refl _, fun _ _ => rfl, rfl, rfl, rfl⟩
structure FrI (S0 : Snap) (μ0 : List Mu) (w0 : World) (S : Snap) (μ : List Mu) (w : World) : Prop where
 ext : SExt S0 S
 le : MuLe w0.heap.size μ0 μ
 new : ∀ (i : Nat) (m : Mu) (b : Nat), μ[i]? = some m → m.blk = some b → (∃ m0 : Mu, μ0[i]? = some m0 ∧ m0.blk = some b) ∨ w0.heap.size ≤ b
 keep : ∀ b, b < w0.heap.size → (∀ (i : Nat) (m : Mu), μ0[i]? = some m → m.blk ≠ some b) → w.heap[b]? = w0.heap[b]?
 size : w0.heap.size ≤ w.heap.size
 os : w.os = w0.os
 tape : w.tape = w0.tape
 output : w.output = w0.output
 sf : ∀ b c, S b = some c → S0 b = some c ∨ w0.heap.size ≤ b
def TZ (N : Nat) (μ0 : List Mu) (k : Nat) : Prop := k = N / 2 ∧ (N % 2 = 1 → μ0 = [])
structure Inv (S0 : Snap) (μ0 : List Mu) (w0 : World) (N : Nat) (S : Snap) (μ : List Mu) (τ : List (Nat × AV)) (Γ : List Ob) (a : Act) (w : World) : Prop where
 fr : FrI S0 μ0 w0 S μ w
 wi : WI S μ Γ w
 ci : CI S μ τ a
 tsz : TZ N μ0 a.tmps.size
 dfr : a.defers = []
abbrev PQ := Exit → List (Nat × AV) → List Ob → Prop
def Post (S0 : Snap) (μ0 : List Mu) (w0 : World) (N : Nat) (Q : PQ) : Exit → Act → World → Prop :=
 fun e a w => ∃ S μ τ Γ, Q e τ Γ ∧ Inv S0 μ0 w0 N S μ τ Γ a w
def RunC (P : Program) (N : Nat) (c : Code) (τ : List (Nat × AV)) (Γ : List Ob) (Q : PQ) : Prop :=
 ∀ S0 μ0 w0 S μ a w, Inv S0 μ0 w0 N S μ τ Γ a w → c.wp P (Post S0 μ0 w0 N Q) a w
theorem RunC.mono {P : Program} {N : Nat} {c : Code} {τ : List (Nat × AV)} {Γ : List Ob} {Q Q' : PQ} (h : RunC P N c τ Γ Q) (hq : ∀ e τ Γ, Q e τ Γ → Q' e τ Γ) : RunC P N c τ Γ Q' :=
 fun S0 μ0 w0 S μ a w hi => wp_mono (h S0 μ0 w0 S μ a w hi) fun _ _ _ ⟨S, μ, τ, Γ, q, i⟩ => ⟨S, μ, τ, Γ, hq _ _ _ q, i⟩
def thenQ (K : List (Nat × AV) → List Ob → Prop) (Q : PQ) : PQ := fun e τ Γ => match e with
 | .normal => K τ Γ
 | e => Q e τ Γ
def blockQ (id : Nat) (Q : PQ) : PQ := fun e τ Γ => match e with
 | .exit id' => if id' = id then Q .normal τ Γ else Q (.exit id') τ Γ
 | e => Q e τ Γ
theorem RunC.seq {P : Program} {N : Nat} {x y : Code} {τ : List (Nat × AV)} {Γ : List Ob} {Q : PQ} (h : RunC P N x τ Γ (thenQ (fun τ Γ => RunC P N y τ Γ Q) Q)) : RunC P N (.seq x y) τ Γ Q := by
 intro S0 μ0 w0 S μ a w hi
 refine wp_seq (wp_mono (h S0 μ0 w0 S μ a w hi) ?_)
 rintro e a' w' ⟨S', μ', τ', Γ', q, i⟩
 cases e <;> first | exact q S0 μ0 w0 S' μ' a' w' i | exact ⟨S', μ', τ', Γ', q, i⟩
theorem RunC.skip {P : Program} {N : Nat} {τ : List (Nat × AV)} {Γ : List Ob} {Q : PQ} (h : Q .normal τ Γ) : RunC P N .skip τ Γ Q :=
 fun _ _ _ S μ _ _ hi => wp_skip ⟨S, μ, τ, Γ, h, hi⟩
theorem RunC.exit {P : Program} {N id : Nat} {τ : List (Nat × AV)} {Γ : List Ob} {Q : PQ} (h : Q (.exit id) τ Γ) : RunC P N (.exit id) τ Γ Q :=
 fun _ _ _ S μ _ _ hi => wp_exit ⟨S, μ, τ, Γ, h, hi⟩
theorem RunC.ret {P : Program} {N : Nat} {τ : List (Nat × AV)} {Γ : List Ob} {Q : PQ} (h : Q .ret τ Γ) : RunC P N .ret τ Γ Q :=
 fun _ _ _ S μ _ _ hi => wp_ret ⟨S, μ, τ, Γ, h, hi⟩
theorem RunC.block {P : Program} {N id : Nat} {c : Code} {τ : List (Nat × AV)} {Γ : List Ob} {Q : PQ} (h : RunC P N c τ Γ (blockQ id Q)) : RunC P N (.block id c) τ Γ Q := by
 intro S0 μ0 w0 S μ a w hi
 refine wp_block (wp_mono (h S0 μ0 w0 S μ a w hi) ?_)
 rintro e a' w' ⟨S', μ', τ', Γ', q, i⟩
 cases e <;> try exact ⟨S', μ', τ', Γ', q, i⟩
 rename_i id'
 simp only [blockQ] at q
 simp only [Exit.inBlock]
 split
 ·rename_i e; rw [if_pos e] at q; exact ⟨S', μ', τ', Γ', q, i⟩
 ·rename_i e; rw [if_neg e] at q; exact ⟨S', μ', τ', Γ', q, i⟩
def ev (τ : List (Nat × AV)) : Operand → AV
 | .tmp t => look τ t
 | .const v => .x v
 | .global g => .x (.pointer (some ⟨g, 0, none⟩))
 | .func f => .fn (.func f) [] []
theorem CI.ev {S : Snap} {μ : List Mu} {τ : List (Nat × AV)} {a : Act} (h : CI S μ τ a) (o : Operand) : V S μ (ev τ o) (a.eval o) := by
 cases o with
 | tmp t => exact h t
 | const v => simp only [AM.ev, Act.eval, V]
 | global g => simp only [AM.ev, Act.eval, V]
 | func f => exact ⟨#[], #[], rfl, by simp only [VL], by simp only [VL]⟩
theorem RunC.cond {P : Program} {N : Nat} {c : Operand} {x y : Code} {τ : List (Nat × AV)} {Γ : List Ob} {Q : PQ} {t : Bool} (hc : ev τ c = .x (.bool t)) (h : RunC P N (if t then x else y) τ Γ Q) : RunC P N (.cond c x y) τ Γ Q := by
 intro S0 μ0 w0 S μ a w hi
 have := hi.ci.ev c
 rw [hc] at this
 simp only [V] at this
 exact wp_cond this (h S0 μ0 w0 S μ a w hi)
theorem RunC.cond_true {P : Program} {N : Nat} {c : Operand} {x y : Code} {τ : List (Nat × AV)} {Γ : List Ob} {Q : PQ} {t : Bool} (hc : ev τ c = .x (.bool t)) (ht : t = true) (h : RunC P N x τ Γ Q) : RunC P N (.cond c x y) τ Γ Q :=
 RunC.cond hc (by subst ht; exact h)
theorem RunC.cond_false {P : Program} {N : Nat} {c : Operand} {x y : Code} {τ : List (Nat × AV)} {Γ : List Ob} {Q : PQ} {t : Bool} (hc : ev τ c = .x (.bool t)) (ht : t = false) (h : RunC P N y τ Γ Q) : RunC P N (.cond c x y) τ Γ Q :=
 RunC.cond hc (by subst ht; exact h)
theorem CI.weak {S : Snap} {μ : List Mu} {τ τ' : List (Nat × AV)} {a : Act} (h : CI S μ τ a) (hw : ∀ p ∈ τ', look τ p.1 = p.2 ) : CI S μ τ' a := by
 intro t
 have key : ∀ l : List (Nat × AV), (∀ p ∈ l, look τ p.1 = p.2) → look l t = .any ∨ look l t = look τ t := by
  intro l
  induction l with
  | nil => intro _; exact .inl rfl
  | cons p l ih =>
   intro hl
   obtain ⟨d, v⟩ := p
   simp only [look]
   by_cases e : d = t
   ·subst e
    rw [if_pos rfl]
    exact .inr (hl (d, v) (by simp)).symm
   ·rw [if_neg e]
    exact ih fun q hq => hl q (by simp [hq])
 rcases key τ' hw with e | e
 ·rw [e]; simp only [V]
 ·rw [e]; exact h t
theorem RunC.weak {P : Program} {N : Nat} {c : Code} {τ : List (Nat × AV)} (τ' : List (Nat × AV)) {Γ : List Ob} {Q : PQ} (hw : ∀ p ∈ τ', look τ p.1 = p.2) (h : RunC P N c τ' Γ Q) : RunC P N c τ Γ Q :=
 fun S0 μ0 w0 S μ a w hi => h S0 μ0 w0 S μ a w ⟨hi.fr, hi.wi, hi.ci.weak hw, hi.tsz, hi.dfr⟩
theorem lt_of_getElem? {α : Type} {l : List α} {i : Nat} {a : α} (h : l[i]? = some a) : i < l.length := by
 rcases Nat.lt_or_ge i l.length with h' | h'
 ·exact h'
 ·simp [List.getElem?_eq_none h'] at h
theorem getElem?_of_lt {α : Type} {l : List α} {i : Nat} (h : i < l.length) : ∃ a, l[i]? = some a := ⟨l[i], List.getElem?_eq_getElem h⟩
theorem RunC.room {P : Program} {N : Nat} {c : Code} {τ : List (Nat × AV)} {Γ : List Ob} {Q : PQ} (k : Nat) (h : RunC P N c τ (Γ ++ List.replicate k ⟨0, none⟩) Q) : RunC P N c τ Γ Q := by
 intro S0 μ0 w0 S μ a w hi
 have hnew : ∀ (i : Nat) (m : Mu), (μ ++ List.replicate k (⟨0, none, 0, 0, false⟩ : Mu))[i]? = some m → μ[i]? = some m ∨ (μ.length ≤ i ∧ m = ⟨0, none, 0, 0, false⟩) := by
  intro i m hm
  rcases Nat.lt_or_ge i μ.length with hl | hl
  ·rw [List.getElem?_append_left hl] at hm; exact .inl hm
  ·rw [List.getElem?_append_right hl, List.getElem?_replicate] at hm
   split at hm
   ·simp at hm; exact .inr ⟨hl, hm.symm⟩
   ·cases hm
 have hΓ : ∀ (i : Nat) (g : Ob), (Γ ++ List.replicate k (⟨0, none⟩ : Ob))[i]? = some g → Γ[i]? = some g ∨ (Γ.length ≤ i ∧ g = ⟨0, none⟩) := by
  intro i g hg
  rcases Nat.lt_or_ge i Γ.length with hl | hl
  ·rw [List.getElem?_append_left hl] at hg; exact .inl hg
  ·rw [List.getElem?_append_right hl, List.getElem?_replicate] at hg
   split at hg
   ·simp at hg; exact .inr ⟨hl, hg.symm⟩
   ·cases hg
 have hlen := hi.wi.len
 refine h S0 μ0 w0 S (μ ++ List.replicate k ⟨0, none, 0, 0, false⟩) a w ⟨⟨hi.fr.ext, hi.fr.le.trans (MuLe.append w0.heap.size _ _) (Nat.le_refl _), ?_, hi.fr.keep, hi.fr.size, hi.fr.os, hi.fr.tape, hi.fr.output, hi.fr.sf⟩, ⟨hi.wi.snap, by simp [hlen], ?_, ?_, ?_⟩, ?_, hi.tsz, hi.dfr⟩
 ·intro i m b hm hb
  rcases hnew i m hm with hm | ⟨_, rfl⟩
  ·exact hi.fr.new i m b hm hb
  ·simp at hb
 ·intro o g m hg hm
  rcases hnew o m hm with hm | ⟨h1, rfl⟩
  ·rcases hΓ o g hg with hg | ⟨h2, rfl⟩
   ·exact hi.wi.ver o g m hg hm
   ·have := lt_of_getElem? hm; omega
  ·rcases hΓ o g hg with hg | ⟨h2, rfl⟩
   ·have := lt_of_getElem? hg; omega
   ·rfl
 ·intro o ver l m hg hm
  rcases hΓ o _ hg with hg | ⟨h2, e⟩
  ·rcases hnew o m hm with hm | ⟨h1, rfl⟩
   ·have := hi.wi.own o ver l m hg hm
    unfold OwnAt at *
    split at this
    ·exact this
    ·obtain ⟨k1, cs, T, k2, k3, k4⟩ := this
     exact ⟨k1, cs, T, k2, k3, VP.mono (SExt.refl S) (MuLe.append 0 _ _) l _ k4⟩
   ·have := lt_of_getElem? hg; omega
  ·simp at e
 ·intro o o' g g' m m' b hg hgs hg' hgs' hm hm' hb hb'
  rcases hnew o m hm with hm | ⟨_, rfl⟩
  ·rcases hnew o' m' hm' with hm' | ⟨_, rfl⟩
   ·rcases hΓ o g hg with hg | ⟨_, rfl⟩
    ·rcases hΓ o' g' hg' with hg' | ⟨_, rfl⟩
     ·exact hi.wi.sep o o' g g' m m' b hg hgs hg' hgs' hm hm' hb hb'
     ·simp at hgs'
    ·simp at hgs
   ·simp at hb'
  ·simp at hb
 ·exact fun t => V.mono (SExt.refl S) (MuLe.append 0 _ _) _ _ (hi.ci t)
end Go.AM

namespace Go.AM
mutual
def AV.ren (σ : Nat → Nat × Nat) : AV → AV
 | .sl n l => .sl n (AV.rens σ l)
 | .agg l => .agg (AV.rens σ l)
 | .tup l => .tup (AV.rens σ l)
 | .ptr l => .ptr (AV.rens σ l)
 | .fn g p q => .fn g (AV.rens σ p) (AV.rens σ q)
 | .oref o ver off len => .oref (σ o).1 (ver + (σ o).2) off len
 | .optr o ver off => .optr (σ o).1 (ver + (σ o).2) off
 | .mref o ver => .mref (σ o).1 (ver + (σ o).2)
 | .itr o ver => .itr (σ o).1 (ver + (σ o).2)
 | .x v => .x v
 | .f k c => .f k c
 | .cx k r i => .cx k r i
 | .bt k ik c => .bt k ik c
 | .any => .any
 | .nni => .nni
def AV.rens (σ : Nat → Nat × Nat) : List AV → List AV
 | [] => []
 | a :: l => AV.ren σ a :: AV.rens σ l
end
mutual
def AV.lt (k : Nat) : AV → Bool
 | .sl _ l => AV.lts k l
 | .agg l => AV.lts k l
 | .tup l => AV.lts k l
 | .ptr l => AV.lts k l
 | .fn _ p q => AV.lts k p && AV.lts k q
 | .oref o _ _ _ => decide (o < k)
 | .optr o _ _ => decide (o < k)
 | .mref o _ => decide (o < k)
 | .itr o _ => decide (o < k)
 | .x _ => true
 | .f _ _ => true
 | .cx _ _ _ => true
 | .bt _ _ _ => true
 | .any => true
 | .nni => true
def AV.lts (k : Nat) : List AV → Bool
 | [] => true
 | a :: l => AV.lt k a && AV.lts k l
end
def Shift (s : Nat) : Option Mu → Option Mu → Prop
 | some m', some m => s ≤ m.ver ∧ m' = { m with ver := m.ver - s }
 | none, _ => False
 | _, none => False
mutual
theorem V.unren {S : Snap} {μ μ' : List Mu} {σ : Nat → Nat × Nat} {k : Nat} (hσ : ∀ i, i < k → Shift (σ i).2 μ'[i]? μ[(σ i).1]?) : ∀ (a : AV) (v : Value), a.lt k = true → V S μ (a.ren σ) v → V S μ' a v
 | .x _, _, _, h => by simpa only [V, AV.ren] using h
 | .f _ _, _, _, h => by simpa only [V, AV.ren] using h
 | .cx _ _ _, _, _, h => by simpa only [V, AV.ren] using h
 | .bt _ _ _, _, _, h => by simpa only [V, AV.ren] using h
 | .any, _, _, _ => by simp only [V]
 | .nni, _, _, h => by simpa only [V, AV.ren] using h
 | .sl n l, v, hl, h => by
  simp only [AV.lt] at hl
  simp only [V, AV.ren] at h ⊢
  obtain ⟨a, cap, h1, h2, h3⟩ := h
  refine ⟨a, cap, h1, h2, ?_⟩
  rcases h3 with h3 | ⟨b, off, cs, h4, h5, h6⟩
  ·cases l with
   | nil => exact .inl rfl
   | cons a l => simp [AV.rens] at h3
  ·exact .inr ⟨b, off, cs, h4, h5, VP.unren hσ l _ hl h6⟩
 | .agg l, v, hl, h => by
  simp only [AV.lt] at hl
  simp only [V, AV.ren] at h ⊢
  obtain ⟨cs, h1, h2⟩ := h
  exact ⟨cs, h1, VL.unren hσ l _ hl h2⟩
 | .tup l, v, hl, h => by
  simp only [AV.lt] at hl
  simp only [V, AV.ren] at h ⊢
  obtain ⟨cs, h1, h2⟩ := h
  exact ⟨cs, h1, VL.unren hσ l _ hl h2⟩
 | .ptr l, v, hl, h => by
  simp only [AV.lt] at hl
  simp only [V, AV.ren] at h ⊢
  obtain ⟨b, off, cs, h1, h2, h3⟩ := h
  exact ⟨b, off, cs, h1, h2, VP.unren hσ l _ hl h3⟩
 | .fn g p q, v, hl, h => by
  simp only [AV.lt, Bool.and_eq_true] at hl
  simp only [V, AV.ren] at h ⊢
  obtain ⟨ps, qs, h1, h2, h3⟩ := h
  exact ⟨ps, qs, h1, VL.unren hσ p _ hl.1 h2, VL.unren hσ q _ hl.2 h3⟩
 | .oref o ver off len, v, hl, h => by
  simp only [AV.lt, decide_eq_true_eq] at hl
  simp only [V, AV.ren] at h ⊢
  obtain ⟨m, a, cap, h1, h2, h3, h4⟩ := h
  have hs := hσ o hl
  rw [h1] at hs
  cases e : μ'[o]? with
  | none => rw [e] at hs; exact hs.elim
  | some m' =>
   rw [e] at hs
   obtain ⟨hs1, rfl⟩ := hs
   exact ⟨_, a, cap, rfl, by simp only; omega, h3, fun e => h4 (by simp only at e; omega)⟩
 | .optr o ver off, v, hl, h => by
  simp only [AV.lt, decide_eq_true_eq] at hl
  simp only [V, AV.ren] at h ⊢
  obtain ⟨m, a, h1, h2, h3, h4⟩ := h
  have hs := hσ o hl
  rw [h1] at hs
  cases e : μ'[o]? with
  | none => rw [e] at hs; exact hs.elim
  | some m' =>
   rw [e] at hs
   obtain ⟨hs1, rfl⟩ := hs
   exact ⟨_, a, rfl, by simp only; omega, h3, fun e => h4 (by simp only at e; omega)⟩
 | .mref o ver, v, hl, h => by
  simp only [AV.lt, decide_eq_true_eq] at hl
  simp only [V, AV.ren] at h ⊢
  obtain ⟨m, a, h1, h2, h3, h4⟩ := h
  have hs := hσ o hl
  rw [h1] at hs
  cases e : μ'[o]? with
  | none => rw [e] at hs; exact hs.elim
  | some m' =>
   rw [e] at hs
   obtain ⟨hs1, rfl⟩ := hs
   exact ⟨_, a, rfl, by simp only; omega, h3, fun e => h4 (by simp only at e; omega)⟩
 | .itr o ver, v, hl, h => by
  simp only [AV.lt, decide_eq_true_eq] at hl
  simp only [V, AV.ren] at h ⊢
  obtain ⟨m, a, h1, h2, h3, h4⟩ := h
  have hs := hσ o hl
  rw [h1] at hs
  cases e : μ'[o]? with
  | none => rw [e] at hs; exact hs.elim
  | some m' =>
   rw [e] at hs
   obtain ⟨hs1, rfl⟩ := hs
   exact ⟨_, a, rfl, by simp only; omega, h3, fun e => h4 (by simp only at e; omega)⟩
theorem VP.unren {S : Snap} {μ μ' : List Mu} {σ : Nat → Nat × Nat} {k : Nat} (hσ : ∀ i, i < k → Shift (σ i).2 μ'[i]? μ[(σ i).1]?) : ∀ (l : List AV) (vs : List Value), AV.lts k l = true → VP S μ (AV.rens σ l) vs → VP S μ' l vs
 | [], _, _, _ => by simp only [VP]
 | a :: l, v :: vs, hl, h => by
  simp only [AV.lts, Bool.and_eq_true] at hl
  simp only [VP, AV.rens] at h ⊢
  exact ⟨V.unren hσ a v hl.1 h.1, VP.unren hσ l vs hl.2 h.2⟩
 | _ :: _, [], _, h => by simp only [VP, AV.rens] at h
theorem VL.unren {S : Snap} {μ μ' : List Mu} {σ : Nat → Nat × Nat} {k : Nat} (hσ : ∀ i, i < k → Shift (σ i).2 μ'[i]? μ[(σ i).1]?) : ∀ (l : List AV) (vs : List Value), AV.lts k l = true → VL S μ (AV.rens σ l) vs → VL S μ' l vs
 | [], [], _, _ => by simp only [VL]
 | a :: l, v :: vs, hl, h => by
  simp only [AV.lts, Bool.and_eq_true] at hl
  simp only [VL, AV.rens] at h ⊢
  exact ⟨V.unren hσ a v hl.1 h.1, VL.unren hσ l vs hl.2 h.2⟩
 | [], _ :: _, _, h => by simp only [VL, AV.rens] at h
 | _ :: _, [], _, h => by simp only [VL, AV.rens] at h
end
mutual
theorem V.ren {S : Snap} {μ μ' : List Mu} {σ : Nat → Nat × Nat} (hσ : ∀ i m, μ'[i]? = some m → Shift (σ i).2 (some m) μ[(σ i).1]?) : ∀ (a : AV) (v : Value), V S μ' a v → V S μ (a.ren σ) v
 | .x _, _, h => by simpa only [V, AV.ren] using h
 | .f _ _, _, h => by simpa only [V, AV.ren] using h
 | .cx _ _ _, _, h => by simpa only [V, AV.ren] using h
 | .bt _ _ _, _, h => by simpa only [V, AV.ren] using h
 | .any, _, _ => by simp only [V, AV.ren]
 | .nni, _, h => by simpa only [V, AV.ren] using h
 | .sl n l, v, h => by
  simp only [V, AV.ren] at h ⊢
  obtain ⟨a, cap, h1, h2, h3⟩ := h
  refine ⟨a, cap, h1, h2, ?_⟩
  rcases h3 with h3 | ⟨b, off, cs, h4, h5, h6⟩
  ·subst h3; exact .inl rfl
  ·exact .inr ⟨b, off, cs, h4, h5, VP.ren hσ l _ h6⟩
 | .agg l, v, h => by
  simp only [V, AV.ren] at h ⊢
  obtain ⟨cs, h1, h2⟩ := h
  exact ⟨cs, h1, VL.ren hσ l _ h2⟩
 | .tup l, v, h => by
  simp only [V, AV.ren] at h ⊢
  obtain ⟨cs, h1, h2⟩ := h
  exact ⟨cs, h1, VL.ren hσ l _ h2⟩
 | .ptr l, v, h => by
  simp only [V, AV.ren] at h ⊢
  obtain ⟨b, off, cs, h1, h2, h3⟩ := h
  exact ⟨b, off, cs, h1, h2, VP.ren hσ l _ h3⟩
 | .fn g p q, v, h => by
  simp only [V, AV.ren] at h ⊢
  obtain ⟨ps, qs, h1, h2, h3⟩ := h
  exact ⟨ps, qs, h1, VL.ren hσ p _ h2, VL.ren hσ q _ h3⟩
 | .oref o ver off len, v, h => by
  simp only [V, AV.ren] at h ⊢
  obtain ⟨m', a, cap, h1, h2, h3, h4⟩ := h
  have hs := hσ o m' h1
  cases e : μ[(σ o).1]? with
  | none => rw [e] at hs; exact hs.elim
  | some m =>
   rw [e] at hs
   obtain ⟨hs1, rfl⟩ := hs
   simp only at h2 h4
   exact ⟨m, a, cap, rfl, by omega, h3, fun e => h4 (by omega)⟩
 | .optr o ver off, v, h => by
  simp only [V, AV.ren] at h ⊢
  obtain ⟨m', a, h1, h2, h3, h4⟩ := h
  have hs := hσ o m' h1
  cases e : μ[(σ o).1]? with
  | none => rw [e] at hs; exact hs.elim
  | some m =>
   rw [e] at hs
   obtain ⟨hs1, rfl⟩ := hs
   simp only at h2 h4
   exact ⟨m, a, rfl, by omega, h3, fun e => h4 (by omega)⟩
 | .mref o ver, v, h => by
  simp only [V, AV.ren] at h ⊢
  obtain ⟨m', a, h1, h2, h3, h4⟩ := h
  have hs := hσ o m' h1
  cases e : μ[(σ o).1]? with
  | none => rw [e] at hs; exact hs.elim
  | some m =>
   rw [e] at hs
   obtain ⟨hs1, rfl⟩ := hs
   simp only at h2 h4
   exact ⟨m, a, rfl, by omega, h3, fun e => h4 (by omega)⟩
 | .itr o ver, v, h => by
  simp only [V, AV.ren] at h ⊢
  obtain ⟨m', a, h1, h2, h3, h4⟩ := h
  have hs := hσ o m' h1
  cases e : μ[(σ o).1]? with
  | none => rw [e] at hs; exact hs.elim
  | some m =>
   rw [e] at hs
   obtain ⟨hs1, rfl⟩ := hs
   simp only at h2 h4
   exact ⟨m, a, rfl, by omega, h3, fun e => h4 (by omega)⟩
theorem VP.ren {S : Snap} {μ μ' : List Mu} {σ : Nat → Nat × Nat} (hσ : ∀ i m, μ'[i]? = some m → Shift (σ i).2 (some m) μ[(σ i).1]?) : ∀ (l : List AV) (vs : List Value), VP S μ' l vs → VP S μ (AV.rens σ l) vs
 | [], _, _ => by simp only [VP, AV.rens]
 | a :: l, v :: vs, h => by
  simp only [VP, AV.rens] at h ⊢
  exact ⟨V.ren hσ a v h.1, VP.ren hσ l vs h.2⟩
 | _ :: _, [], h => by simp only [VP] at h
theorem VL.ren {S : Snap} {μ μ' : List Mu} {σ : Nat → Nat × Nat} (hσ : ∀ i m, μ'[i]? = some m → Shift (σ i).2 (some m) μ[(σ i).1]?) : ∀ (l : List AV) (vs : List Value), VL S μ' l vs → VL S μ (AV.rens σ l) vs
 | [], [], _ => by simp only [VL, AV.rens]
 | a :: l, v :: vs, h => by
  simp only [VL, AV.rens] at h ⊢
  exact ⟨V.ren hσ a v h.1, VL.ren hσ l vs h.2⟩
 | [], _ :: _, h => by simp only [VL] at h
 | _ :: _, [], h => by simp only [VL] at h
end
theorem AV.lts_eq_all (k : Nat) : ∀ l : List AV, AV.lts k l = l.all (AV.lt k)
 | [] => rfl
 | a :: l => by simp [AV.lts, AV.lts_eq_all k l]
mutual
theorem AV.ren_of_lt0 (σ : Nat → Nat × Nat) : ∀ a : AV, a.lt 0 = true → a.ren σ = a
 | .sl n l, h => by simp only [AV.lt] at h; simp only [AV.ren, AV.rens_of_lt0 σ l h]
 | .agg l, h => by simp only [AV.lt] at h; simp only [AV.ren, AV.rens_of_lt0 σ l h]
 | .tup l, h => by simp only [AV.lt] at h; simp only [AV.ren, AV.rens_of_lt0 σ l h]
 | .ptr l, h => by simp only [AV.lt] at h; simp only [AV.ren, AV.rens_of_lt0 σ l h]
 | .fn g p q, h => by
  simp only [AV.lt, Bool.and_eq_true] at h
  simp only [AV.ren, AV.rens_of_lt0 σ p h.1, AV.rens_of_lt0 σ q h.2]
 | .oref o _ _ _, h => by simp [AV.lt] at h
 | .optr o _ _, h => by simp [AV.lt] at h
 | .mref o _, h => by simp [AV.lt] at h
 | .itr o _, h => by simp [AV.lt] at h
 | .x _, _ => rfl
 | .f _ _, _ => rfl
 | .cx _ _ _, _ => rfl
 | .bt _ _ _, _ => rfl
 | .any, _ => rfl
 | .nni, _ => rfl
theorem AV.rens_of_lt0 (σ : Nat → Nat × Nat) : ∀ l : List AV, AV.lts 0 l = true → AV.rens σ l = l
 | [], _ => rfl
 | a :: l, h => by
  simp only [AV.lts, Bool.and_eq_true] at h
  simp only [AV.rens, AV.ren_of_lt0 σ a h.1, AV.rens_of_lt0 σ l h.2]
end
theorem V.pure {S : Snap} {μ μ' : List Mu} {a : AV} {v : Value} (ha : a.lt 0 = true) (h : V S μ a v) : V S μ' a v := by
 refine V.unren (μ := μ) (σ := fun i => (i, 0)) (k := 0) (fun i hi => by omega) a v ha ?_
 rw [AV.ren_of_lt0 _ _ ha]; exact h
theorem VL.pure {S : Snap} {μ μ' : List Mu} {l : List AV} {vs : List Value} (ha : AV.lts 0 l = true) (h : VL S μ l vs) : VL S μ' l vs := by
 refine VL.unren (μ := μ) (σ := fun i => (i, 0)) (k := 0) (fun i hi => by omega) l vs ha ?_
 rw [AV.rens_of_lt0 _ _ ha]; exact h
def selMu (sel : List (Nat × Nat)) (μ : List Mu) : List Mu := sel.map fun p => { μ.getD p.1 ⟨0, none, 0, 0, false⟩ with ver := (μ.getD p.1 ⟨0, none, 0, 0, false⟩).ver - p.2 }
def sigma (sel : List (Nat × Nat)) (i : Nat) : Nat × Nat := sel.getD i (0, 0)
def SelOk (sel : List (Nat × Nat)) (Γ Γ' : List Ob) : Prop :=
 Γ'.length = sel.length ∧ (sel.map (·.1)).Nodup ∧
 ∀ (i : Nat) (g' : Ob), Γ'[i]? = some g' → ∃ g, Γ[(sigma sel i).1]? = some g ∧ g.ver = g'.ver + (sigma sel i).2 ∧
  ∀ l, g'.cells = some l → AV.lts sel.length l = true ∧ g.cells = some (AV.rens (sigma sel) l)
theorem SelOk.lt {sel : List (Nat × Nat)} {Γ Γ' : List Ob} (h : SelOk sel Γ Γ') {i : Nat} (hi : i < sel.length) : (sigma sel i).1 < Γ.length := by
 obtain ⟨g', hg'⟩ := getElem?_of_lt (l := Γ') (i := i) (by rw [h.1]; exact hi)
 obtain ⟨g, hg, _⟩ := h.2.2 i g' hg'
 exact lt_of_getElem? hg
theorem length_selMu (sel : List (Nat × Nat)) (μ : List Mu) : (selMu sel μ).length = sel.length := by simp [selMu]
theorem sigma_inj {sel : List (Nat × Nat)} (hn : (sel.map (·.1)).Nodup) {i j : Nat} (hi : i < sel.length) (hj : j < sel.length) (h : (sigma sel i).1 = (sigma sel j).1) : i = j := by
 simp only [sigma, List.getD, List.getElem?_eq_getElem hi, List.getElem?_eq_getElem hj, Option.getD_some] at h
 have key := List.pairwise_iff_getElem.1 hn
 rcases Nat.lt_trichotomy i j with e | e | e
 ·exact absurd (by rw [List.getElem_map, List.getElem_map]; exact h) (key i j (by simpa using hi) (by simpa using hj) e)
 ·exact e
 ·exact absurd (by rw [List.getElem_map, List.getElem_map]; exact h.symm) (key j i (by simpa using hj) (by simpa using hi) e)
theorem shift_selMu {S : Snap} {sel : List (Nat × Nat)} {μ : List Mu} {Γ Γ' : List Ob} {w : World} (hw : WI S μ Γ w) (hs : SelOk sel Γ Γ') (i : Nat) (hi : i < sel.length) : Shift (sigma sel i).2 (selMu sel μ)[i]? μ[(sigma sel i).1]? := by
 have h1 : sel[i]? = some (sel[i]) := List.getElem?_eq_getElem hi
 have h2 : sigma sel i = sel[i] := by simp [sigma, List.getD, h1]
 have h3 := hs.lt hi
 rw [← hw.len] at h3
 obtain ⟨m, hm⟩ := getElem?_of_lt h3
 obtain ⟨g', hg'⟩ := getElem?_of_lt (l := Γ') (i := i) (by rw [hs.1]; exact hi)
 obtain ⟨g, hg, hv, _⟩ := hs.2.2 i g' hg'
 have hver := hw.ver _ g m hg hm
 rw [hm]
 rw [h2] at hm hv ⊢
 have : (selMu sel μ)[i]? = some { m with ver := m.ver - sel[i].2 } := by
  simp only [selMu, List.getElem?_map, h1, Option.map_some, List.getD, hm, Option.getD_some]
 rw [this]
 exact ⟨by omega, rfl⟩
theorem OwnAt.unren {S : Snap} {μ μ' : List Mu} {w : World} {σ : Nat → Nat × Nat} {k : Nat} {l : List AV} {m m' : Mu} (hσ : ∀ i, i < k → Shift (σ i).2 μ'[i]? μ[(σ i).1]?) (hm : m'.blk = m.blk ∧ m'.sz = m.sz ∧ m'.mp = m.mp) (hl : AV.lts k l = true) (h : OwnAt S μ w (AV.rens σ l) m) : OwnAt S μ' w l m' := by
 unfold OwnAt at *
 rw [hm.1]
 split at h
 ·cases l with
  | nil => rfl
  | cons a l => simp [AV.rens] at h
 ·obtain ⟨h1, cs, T, h2, h3, h4⟩ := h
  exact ⟨h1, cs, T, h2, h3.ver hm.2, VP.unren hσ l _ hl h4⟩
theorem OwnAt.ren {S : Snap} {μ μ' : List Mu} {w : World} {σ : Nat → Nat × Nat} {l : List AV} {m m' : Mu} (hσ : ∀ i m, μ'[i]? = some m → Shift (σ i).2 (some m) μ[(σ i).1]?) (hm : m'.blk = m.blk ∧ m'.sz = m.sz ∧ m'.mp = m.mp) (h : OwnAt S μ' w l m') : OwnAt S μ w (AV.rens σ l) m := by
 unfold OwnAt at *
 rw [← hm.1]
 split at h
 ·subst h; rfl
 ·obtain ⟨h1, cs, T, h2, h3, h4⟩ := h
  exact ⟨h1, cs, T, h2, h3.ver ⟨hm.2.1.symm, hm.2.2.symm⟩, VP.ren hσ l _ h4⟩
theorem OwnAt.mono {S : Snap} {B : Nat} {μ μ' : List Mu} {w : World} {l : List AV} {m : Mu} (hm : MuLe B μ μ') (h : OwnAt S μ w l m) : OwnAt S μ' w l m := by
 unfold OwnAt at *
 split at h
 ·exact h
 ·obtain ⟨h1, cs, T, h2, h3, h4⟩ := h
  exact ⟨h1, cs, T, h2, h3, VP.mono (SExt.refl S) hm l _ h4⟩
theorem WI.sel {S : Snap} {μ : List Mu} {Γ Γ' : List Ob} {w : World} {sel : List (Nat × Nat)} (h : WI S μ Γ w) (hs : SelOk sel Γ Γ') : WI S (selMu sel μ) Γ' w := by
 have hσ := shift_selMu h hs
 have hat : ∀ (o : Nat) (m' : Mu), (selMu sel μ)[o]? = some m' → o < sel.length ∧ ∃ m, μ[(sigma sel o).1]? = some m ∧ (sigma sel o).2 ≤ m.ver ∧ m' = { m with ver := m.ver - (sigma sel o).2 } := by
  intro o m' hm'
  have hi : o < sel.length := by have := lt_of_getElem? hm'; rwa [length_selMu] at this
  have h1 := hσ o hi
  rw [hm'] at h1
  cases e : μ[(sigma sel o).1]? with
  | none => rw [e] at h1; exact h1.elim
  | some m => rw [e] at h1; exact ⟨hi, m, rfl, h1.1, h1.2⟩
 refine ⟨h.snap, by rw [length_selMu, hs.1], ?_, ?_, ?_⟩
 ·intro o g' m' hg' hm'
  obtain ⟨_, m, hm, hle, rfl⟩ := hat o m' hm'
  obtain ⟨g, hg, hv, _⟩ := hs.2.2 o g' hg'
  have := h.ver _ g m hg hm
  simp only; omega
 ·intro o ver l m' hg' hm'
  obtain ⟨_, m, hm, hle, rfl⟩ := hat o m' hm'
  obtain ⟨g, hg, hv, hl⟩ := hs.2.2 o _ hg'
  obtain ⟨hl1, hl2⟩ := hl l rfl
  obtain ⟨gv, gc⟩ := g
  simp only at hl2
  subst hl2
  exact (h.own _ gv _ m hg hm).unren hσ ⟨rfl, rfl, rfl⟩ hl1
 ·intro o o' g1 g1' m1 m1' b ho hgs ho' hgs' hm hm' hb hb'
  obtain ⟨hi, m, km, _, rfl⟩ := hat o m1 hm
  obtain ⟨hi', m', km', _, rfl⟩ := hat o' m1' hm'
  obtain ⟨g, hg, _, hl⟩ := hs.2.2 o g1 ho
  obtain ⟨g', hg', _, hl'⟩ := hs.2.2 o' g1' ho'
  obtain ⟨l, e⟩ := Option.isSome_iff_exists.1 hgs
  obtain ⟨l', e'⟩ := Option.isSome_iff_exists.1 hgs'
  exact sigma_inj hs.2.1 hi hi' (h.sep _ _ g g' m m' b hg (by rw [(hl l e).2]; rfl) hg' (by rw [(hl' l' e').2]; rfl) km km' hb hb')
def Ev (P : Program) (f : FuncId) (args : List AV) (Γ : List Ob) (r : AV) (Γ' : List Ob) : Prop :=
 ∀ (S : Snap) (μ : List Mu) (w : World) (vs : Array Value), WI S μ Γ w → VL S μ args vs.toList →
  Calls P f vs w fun e w' => ∃ v S' μ', e = .returned v ∧ V S' μ' r v ∧ WI S' μ' Γ' w' ∧ FrI S μ w S' μ' w'
theorem FrI.refl {S : Snap} {μ : List Mu} {w : World} : FrI S μ w S μ w :=
 ⟨SExt.refl S, MuLe.refl _ μ, fun _ m _ hm hb => .inl ⟨m, hm, hb⟩, fun _ _ _ => rfl, Nat.le_refl _, rfl, rfl, rfl, fun _ _ h => .inl h⟩
def Res (P : Program) (fn : Func) (τ : List (Nat × AV)) (Γ : List Ob) (r : AV) : Prop :=
 ∀ S μ a w, WI S μ Γ w → CI S μ τ a → ∃ v, (results fn a.tmps).run P w = .ok v w ∧ V S μ r v
def argClaims : Nat → List AV → List (Nat × AV)
 | _, [] => []
 | i, a :: l => (i, a) :: argClaims (i + 1) l
theorem look_argClaims {S : Snap} {μ : List Mu} : ∀ (l : List AV) (vs : List Value) (i t : Nat), VL S μ l vs → look (argClaims i l) t = .any ∨ (i ≤ t ∧ ∃ v, vs[t - i]? = some v ∧ V S μ (look (argClaims i l) t) v)
 | [], _, _, _, _ => .inl rfl
 | a :: l, v :: vs, i, t, h => by
  simp only [VL] at h
  simp only [argClaims, look]
  by_cases e : i = t
  ·subst e
   rw [if_pos rfl]
   exact .inr ⟨Nat.le_refl _, v, by simp, h.1⟩
  ·rw [if_neg e]
   rcases look_argClaims l vs (i + 1) t h.2 with k | ⟨k1, u, k2, k3⟩
   ·exact .inl k
   ·refine .inr ⟨by omega, u, ?_, k3⟩
    have : t - i = (t - (i + 1)) + 1 := by omega
    rw [this]; simpa using k2
 | _ :: _, [], _, _, h => by simp only [VL] at h
def bodyQ (P : Program) (fn : Func) (k : Nat) (r : AV) (Γ' : List Ob) : PQ := fun e τ Γ =>
 (e = .normal ∨ e = .ret) ∧ ∃ sel : List (Nat × Nat), k ≤ sel.length ∧ (∀ i, i < k → sel[i]? = some (i, 0)) ∧ Res P fn τ Γ (r.ren (sigma sel)) ∧ r.lt sel.length = true ∧ SelOk sel Γ Γ'
theorem Ev.of_run {P : Program} {f : FuncId} {fn : Func} {c : Code} {args : List AV} {Γ : List Ob} {r : AV} {Γ' : List Ob} (hf : P.funcs[f]? = some fn) (hb : fn.body = some c) (hN : args.length ≤ fn.ntmps)
  {N : Nat} (hM : N / 2 = fn.ntmps) (hz : N % 2 = 1 → Γ.length = 0) (h : RunC P N c (argClaims 0 args) Γ (bodyQ P fn Γ.length r Γ')) : Ev P f args Γ r Γ' := by
 intro S μ w vs hw ha
 refine calls_of_wp hf hb ?_
 have hsz : vs.size = args.length := by rw [← Array.length_toList]; exact ha.length
 refine wp_mono (h S μ w S μ _ w ⟨FrI.refl, hw, ?_, ?_, rfl⟩) ?_
 ·intro t
  rcases look_argClaims args vs.toList 0 t ha with e | ⟨_, v, e1, e2⟩
  ·rw [e]; simp only [V]
  ·have ht : t < vs.size := by
    have := lt_of_getElem? e1
    simpa using this
   have : (vs ++ Array.replicate (fn.ntmps - vs.size) undef).getD t undef = v := by
    simp only [Array.getD_eq_getD_getElem?, Array.getElem?_append_left ht]
    simp at e1
    simp [e1]
   rw [this]; exact e2
 ·refine ⟨?_, fun h => ?_⟩
  ·rw [hM]; simp; omega
  ·exact List.length_eq_zero_iff.1 (hw.len.trans (hz h))
 ·rintro e a' w' ⟨S', μ', τ', Γe, ⟨he, sel, hk, hid, hres, hlt, hsel⟩, hi⟩
  obtain ⟨v, hrun, hv⟩ := hres S' μ' a' w' hi.wi hi.ci
  have hσ := shift_selMu hi.wi hsel
  have hfin : ∃ v1 S1 μ1, Ending.returned v = .returned v1 ∧ V S1 μ1 r v1 ∧ WI S1 μ1 Γ' w' ∧ FrI S μ w S1 μ1 w' := by
   refine ⟨v, S', selMu sel μ', rfl, V.unren hσ r v hlt hv, hi.wi.sel hsel, ?_⟩
   have hfr := hi.fr
   have hsig : ∀ i, i < Γ.length → sigma sel i = (i, 0) := fun i hi' => by simp [sigma, List.getD, hid i hi']
   have hat : ∀ (i : Nat) (m1 : Mu), (selMu sel μ')[i]? = some m1 → i < sel.length ∧ ∃ m, μ'[(sigma sel i).1]? = some m ∧ m1 = { m with ver := m.ver - (sigma sel i).2 } := by
    intro i m1 hm1
    have hi' : i < sel.length := by have := lt_of_getElem? hm1; rwa [length_selMu] at this
    have h1 := hσ i hi'
    rw [hm1] at h1
    cases e : μ'[(sigma sel i).1]? with
    | none => rw [e] at h1; exact h1.elim
    | some m => rw [e] at h1; exact ⟨hi', m, rfl, h1.2⟩
   refine ⟨hfr.ext, ?_, ?_, hfr.keep, hfr.size, hfr.os, hfr.tape, hfr.output, hfr.sf⟩
   ·intro i m hm
    have hi' : i < Γ.length := by have := lt_of_getElem? hm; rw [hw.len] at this; exact this
    obtain ⟨m', h1, h2⟩ := hfr.le i m hm
    have h3 := hσ i (by omega)
    rw [hsig i hi'] at h3
    simp only at h3
    rw [h1] at h3
    cases e : (selMu sel μ')[i]? with
    | none => rw [e] at h3; exact h3.elim
    | some m1 =>
     rw [e] at h3
     obtain ⟨_, rfl⟩ := h3
     exact ⟨_, rfl, h2⟩
   ·intro i m1 b hm1 hb
    obtain ⟨hi', m, hm, rfl⟩ := hat i m1 hm1
    rcases hfr.new _ m b hm hb with ⟨m0, k1, k2⟩ | k
    ·by_cases hik : i < Γ.length
     ·refine .inl ⟨m0, ?_, k2⟩
      rw [hsig i hik] at k1; exact k1
     ·exfalso
      have hs : (sigma sel i).1 < Γ.length := by have := lt_of_getElem? k1; rw [hw.len] at this; exact this
      have e1 : (sigma sel (sigma sel i).1).1 = (sigma sel i).1 := by rw [hsig _ hs]
      have := sigma_inj hsel.2.1 (by omega) hi' e1
      omega
    ·exact .inr k
  rcases he with rfl | rfl
  ·exact ⟨hi.dfr, v, hrun, hfin⟩
  ·exact ⟨hi.dfr, v, hrun, hfin⟩
end Go.AM

namespace Go.AM
def fillOb1 (Γ : List Ob) (f : Nat × List AV) : List Ob := match Γ[f.1]? with
 | some g => Γ.set f.1 ⟨g.ver + 1, some f.2⟩
 | none => Γ
def fillOb (Γ : List Ob) (fs : List (Nat × List AV)) : List Ob := fs.foldl fillOb1 Γ
def LiveLe (Γ Γ2 : List Ob) : Prop := Γ2.length = Γ.length ∧ ∀ (i ver : Nat) (l : List AV), Γ[i]? = some ⟨ver, some l⟩ → Γ2[i]? = some ⟨ver, some l⟩
structure MuStep (B : Nat) (fs : List (Nat × List AV)) (μ μ' : List Mu) : Prop where
 le : MuLe B μ μ'
 same : ∀ i, (∀ f ∈ fs, f.1 ≠ i) → μ'[i]? = μ[i]?
 new : ∀ (i : Nat) (m : Mu) (b : Nat), μ'[i]? = some m → m.blk = some b → μ[i]? = some m ∨ B ≤ b
theorem MuStep.refl (B : Nat) (fs : List (Nat × List AV)) (μ : List Mu) : MuStep B fs μ μ := ⟨MuLe.refl B μ, fun _ _ => rfl, fun _ _ _ hm _ => .inl hm⟩
theorem LiveLe.refl (Γ : List Ob) : LiveLe Γ Γ := ⟨rfl, fun _ _ _ h => h⟩
def SFresh (B : Nat) (S S' : Snap) : Prop := ∀ b c, S' b = some c → S b = some c ∨ B ≤ b
theorem SFresh.refl (B : Nat) (S : Snap) : SFresh B S S := fun _ _ h => .inl h
def TOp (P : Program) (o : Oper) (τ : List (Nat × AV)) (Γ : List Ob) (r : AV) (fs : List (Nat × List AV)) : Prop :=
 ∀ S μ Γ2 a w, LiveLe Γ Γ2 → (∀ f ∈ fs, Γ2[f.1]? = Γ[f.1]?) → WI S μ Γ2 w → (∀ x ∈ o.op.operands, V S μ (ev τ x) (a.eval x)) → ∀ (next : Act → World → Prop) (Q : Exit → Act → World → Prop),
  (∀ S' μ' v w', SExt S S' → SFresh w.heap.size S S' → MuStep w.heap.size fs μ μ' → WI S' μ' (fillOb Γ2 fs) w' → V S' μ' r v → Grow w w' → next (a.put o.dst v) w') → o.wp P a w next Q
def ROp (P : Program) (N : Nat) (o : Oper) (τ : List (Nat × AV)) (Γ : List Ob) (K : List (Nat × AV) → List Ob → Prop) : Prop :=
 ∀ S0 μ0 w0 S μ a w, Inv S0 μ0 w0 N S μ τ Γ a w → ∀ (next : Act → World → Prop) (Q : Exit → Act → World → Prop),
  (∀ S' μ' v w' τ' Γ', SExt S S' → K τ' Γ' → Inv S0 μ0 w0 N S' μ' τ' Γ' (a.put o.dst v) w' → next (a.put o.dst v) w') → o.wp P a w next Q
theorem FrI.grow {S0 S S' : Snap} {μ0 μ μ' : List Mu} {w0 w w' : World} {fs : List (Nat × List AV)} (h : FrI S0 μ0 w0 S μ w) (hS : SExt S S') (hF : SFresh w.heap.size S S') (hm : MuStep w.heap.size fs μ μ') (hg : Grow w w') : FrI S0 μ0 w0 S' μ' w' :=
 ⟨h.ext.trans hS, h.le.trans hm.le h.size, fun i m b hi hb => (hm.new i m b hi hb).elim (fun k => h.new i m b k hb) (fun k => .inr (Nat.le_trans h.size k)), fun b hb hk => (hg.block b (Nat.lt_of_lt_of_le hb h.size)).trans (h.keep b hb hk), Nat.le_trans h.size hg.size, hg.os.trans h.os, hg.tape.trans h.tape, hg.output.trans h.output,
  fun b c hb => (hF b c hb).elim (fun k => h.sf b c k) (fun k => .inr (Nat.le_trans h.size k))⟩
theorem CI.put {S : Snap} {μ : List Mu} {τ : List (Nat × AV)} {a : Act} {dst : Option Tmp} {r : AV} {v : Value} (h : CI S μ τ a) (hd : ∀ d, dst = some d → d < a.tmps.size) (hv : V S μ r v) : CI S μ (AM.put τ dst r) (a.put dst v) := by
 cases dst with
 | none => exact h
 | some d =>
  intro t
  simp only [AM.put, look, Act.put]
  by_cases e : d = t
  ·subst e
   rw [if_pos rfl]
   have hd' := hd d rfl
   simp only [Array.getD_eq_getD_getElem?, Array.getElem?_setIfInBounds_self_of_lt hd', Option.getD_some]
   exact hv
  ·rw [if_neg e]
   simp only [Array.getD_eq_getD_getElem?, Array.getElem?_setIfInBounds_ne e]
   simpa only [Array.getD_eq_getD_getElem?] using h t
theorem put_size (a : Act) (dst : Option Tmp) (v : Value) : (a.put dst v).tmps.size = a.tmps.size := by
 cases dst <;> simp [Act.put]
theorem put_defers (a : Act) (dst : Option Tmp) (v : Value) : (a.put dst v).defers = a.defers := by
 cases dst <;> simp [Act.put]
theorem CI.mono {S S' : Snap} {B : Nat} {μ μ' : List Mu} {τ : List (Nat × AV)} {a : Act} (h : CI S μ τ a) (hS : SExt S S') (hm : MuLe B μ μ') : CI S' μ' τ a :=
 fun t => V.mono hS hm _ _ (h t)
def dstLt (N : Nat) (o : Oper) : Bool := match o.dst with
 | some d => decide (d < N / 2)
 | none => true
theorem dstLt_spec {N : Nat} {o : Oper} (h : dstLt N o = true) (d : Nat) (hd : o.dst = some d) : d < N / 2 := by
 simp only [dstLt, hd, decide_eq_true_eq] at h; exact h
theorem TOp.rop {P : Program} {N : Nat} {o : Oper} {τ : List (Nat × AV)} {Γ : List Ob} {r : AV} {fs : List (Nat × List AV)} {K : List (Nat × AV) → List Ob → Prop} (h : TOp P o τ Γ r fs) (hd : dstLt N o = true) (hK : K (put τ o.dst r) (fillOb Γ fs)) : ROp P N o τ Γ K := by
 intro S0 μ0 w0 S μ a w hi next Q hn
 refine h S μ Γ a w (LiveLe.refl Γ) (fun _ _ => rfl) hi.wi (fun x _ => hi.ci.ev x) next Q ?_
 intro S' μ' v w' hS hF hm hw hv hg
 refine hn S' μ' v w' _ _ hS hK ⟨hi.fr.grow hS hF hm hg, hw, ?_, by rw [put_size]; exact hi.tsz, by rw [put_defers]; exact hi.dfr⟩
 exact (hi.ci.mono hS hm.le).put (fun d hd' => by rw [hi.tsz.1]; exact dstLt_spec hd d hd') hv
def wantT (all : Array Oper) (τ : List (Nat × AV)) (o : Oper) : Option Bool :=
 match o.guard with
 | none => some true
 | some (j, want) => match (all[j]?).bind (·.dst) with
  | some d => match look τ d with
   | .x (.bool b) => some (b == want)
   | .x _ => some false
   | _ => none
  | none => none
theorem getD_bool {tmps : Array Value} {d : Nat} {b : Bool} (h : tmps.getD d undef = .bool b) : tmps[d]? = some (.bool b) := by
 rw [Array.getD_eq_getD_getElem?] at h
 cases e : tmps[d]? with
 | none => rw [e] at h; simp [undef] at h
 | some v => rw [e] at h; simp at h; rw [h]
theorem wantT_spec {S : Snap} {μ : List Mu} {all : Array Oper} {τ : List (Nat × AV)} {o : Oper} {a : Act} {b : Bool} (h : wantT all τ o = some b)
  (hc : ∀ j want d, o.guard = some (j, want) → (all[j]?).bind (·.dst) = some d → V S μ (look τ d) (a.tmps.getD d undef)) : Region.wanted o (yielded all a.tmps) = b := by
 unfold wantT at h
 unfold Region.wanted
 cases hg : o.guard with
 | none => rw [hg] at h; simpa using h
 | some p =>
  obtain ⟨j, want⟩ := p
  rw [hg] at h
  dsimp only at h ⊢
  cases hd : (all[j]?).bind (·.dst) with
  | none => rw [hd] at h; simp at h
  | some d =>
   rw [hd] at h
   dsimp only at h
   have hv := hc j want d hg hd
   cases hl : look τ d with
   | x v =>
    rw [hl] at h hv
    simp only [V] at hv
    cases v with
    | bool b' =>
     simp at h
     have := getD_bool hv
     simp [yielded, hd, this, ← h]
    | _ =>
     simp at h
     cases e : a.tmps[d]? with
     | none => simp [yielded, hd, e, ← h]
     | some u =>
      rw [Array.getD_eq_getD_getElem?, e] at hv
      simp at hv
      simp [yielded, hd, e, hv, ← h]
   | _ => rw [hl] at h; simp at h
def wpL (P : Program) (all : Array Oper) (Q : Exit → Act → World → Prop) (C : World → Prop) : List Oper → Act → World → Prop
 | [], a, w => Q .normal a w
 | o :: rest, a, w => if Region.wanted o (yielded all a.tmps) = true then o.wp P a w (fun a' w' => C w' ∧ wpL P all Q C rest a' w') Q else wpL P all Q C rest (a.put o.dst undef) w
theorem wpOps_of_wpL {P : Program} {all : Array Oper} {Q : Exit → Act → World → Prop} {C : World → Prop} : ∀ (l : List Oper) (k : Nat) (a : Act) (w : World), (∀ j, j < l.length → all[k + j]? = l[j]?) → wpL P all Q C l a w → wpOps P all Q (List.range' k l.length) a w
 | [], k, a, w, _, h => by simpa [wpOps, wpL] using h
 | o :: rest, k, a, w, hl, h => by
  have h0 : all[k]? = some o := by have := hl 0 (by simp); simpa using this
  have hr : ∀ j, j < rest.length → all[k + 1 + j]? = rest[j]? := fun j hj => by
   have := hl (j + 1) (by simp; omega)
   rw [show k + (j + 1) = k + 1 + j from by omega] at this
   simpa using this
  simp only [List.length_cons, List.range'_succ, wpOps, h0]
  simp only [wpL] at h
  split
  ·rename_i e; rw [if_pos e] at h
   exact .inl (Oper.wp_mono (fun a w h => wpOps_of_wpL rest (k + 1) a w hr h.2) h)
  ·rename_i e; rw [if_neg e] at h
   exact wpOps_of_wpL rest (k + 1) _ w hr h
theorem wp_region_L {P : Program} {id : Nat} {l : List Oper} {Q : Exit → Act → World → Prop} {C : World → Prop} {a : Act} {w : World} (h : wpL P l.toArray Q C l a w) : (Code.region id l.toArray false).wp P Q a w := by
 refine wp_region ?_
 have := wpOps_of_wpL (P := P) (all := l.toArray) (Q := Q) (C := C) l 0 a w (by intro j hj; simp) h
 simpa [List.range_eq_range'] using this
def SnapOK (S : Snap) (w : World) : Prop := ∀ b cs, S b = some cs → ∃ T m, w.heap[b]? = some (.cells cs T m)
theorem SnapOK.mono {S S' : Snap} {w : World} (hS : SExt S S') (h : SnapOK S' w) : SnapOK S w := fun b cs hb => h b cs (hS b cs hb)
def ROps (P : Program) (N : Nat) (all : Array Oper) (ops : List Oper) (τ : List (Nat × AV)) (Γ : List Ob) (Q : PQ) : Prop :=
 ∀ S0 μ0 w0 Sr S μ a w, SExt Sr S → Inv S0 μ0 w0 N S μ τ Γ a w → wpL P all (Post S0 μ0 w0 N Q) (SnapOK Sr) ops a w
theorem RunC.region {P : Program} {N id : Nat} {l : List Oper} {τ : List (Nat × AV)} {Γ : List Ob} {Q : PQ} (h : ROps P N l.toArray l τ Γ Q) : RunC P N (.region id l.toArray false) τ Γ Q :=
 fun S0 μ0 w0 S μ a w hi => wp_region_L (h S0 μ0 w0 S S μ a w (SExt.refl S) hi)
theorem ROps.nil {P : Program} {N : Nat} {all : Array Oper} {τ : List (Nat × AV)} {Γ : List Ob} {Q : PQ} (h : Q .normal τ Γ) : ROps P N all [] τ Γ Q :=
 fun _ _ _ _ S μ _ _ _ hi => ⟨S, μ, τ, Γ, h, hi⟩
theorem ROps.op {P : Program} {N : Nat} {all : Array Oper} {o : Oper} {rest : List Oper} {τ : List (Nat × AV)} {Γ : List Ob} {Q : PQ} (hw : wantT all τ o = some true)
  (h : ROp P N o τ Γ (fun τ' Γ' => ROps P N all rest τ' Γ' Q)) : ROps P N all (o :: rest) τ Γ Q := by
 intro S0 μ0 w0 Sr S μ a w hr hi
 simp only [wpL]
 rw [if_pos (wantT_spec hw fun j want d _ _ => hi.ci d)]
 refine h S0 μ0 w0 S μ a w hi _ _ ?_
 intro S' μ' v w' τ' Γ' hS hK hi'
 exact ⟨SnapOK.mono (hr.trans hS) hi'.wi.snap, hK S0 μ0 w0 Sr S' μ' _ w' (hr.trans hS) hi'⟩
theorem ROps.skip {P : Program} {N : Nat} {all : Array Oper} {o : Oper} {rest : List Oper} {τ : List (Nat × AV)} {Γ : List Ob} {Q : PQ} (hw : wantT all τ o = some false) (hd : dstLt N o = true)
  (h : ROps P N all rest (put τ o.dst (.x undef)) Γ Q) : ROps P N all (o :: rest) τ Γ Q := by
 intro S0 μ0 w0 Sr S μ a w hr hi
 simp only [wpL]
 rw [if_neg (by rw [wantT_spec hw fun j want d _ _ => hi.ci d]; simp)]
 refine h S0 μ0 w0 Sr S μ _ w hr ⟨hi.fr, hi.wi, hi.ci.put (fun d hd' => by rw [hi.tsz.1]; exact dstLt_spec hd d hd') ?_, by rw [put_size]; exact hi.tsz, by rw [put_defers]; exact hi.dfr⟩
 simp only [V]
theorem ROps.t {P : Program} {N : Nat} {all : Array Oper} {o : Oper} {rest : List Oper} {τ : List (Nat × AV)} {Γ : List Ob} {Q : PQ} {r : AV} (hw : wantT all τ o = some true) (hd : dstLt N o = true) {fs : List (Nat × List AV)} (ht : TOp P o τ Γ r fs)
  (h : ROps P N all rest (put τ o.dst r) (fillOb Γ fs) Q) : ROps P N all (o :: rest) τ Γ Q := ROps.op hw (ht.rop hd h)
def LOp (P : Program) (o : Oper) (τ : List (Nat × AV)) (r : AV) : Prop :=
 ∀ (S : Snap) (μ : List Mu) (a : Act), (∀ x ∈ o.op.operands, V S μ (ev τ x) (a.eval x)) → ∃ v : Value, (∀ w : World, SnapOK S w → (execOp a.eval o).run P w = .ok (.value v) w) ∧ V S μ r v
theorem LOp.top {P : Program} {o : Oper} {τ : List (Nat × AV)} {Γ : List Ob} {r : AV} (h : LOp P o τ r) : TOp P o τ Γ r [] := by
 intro S μ Γ2 a w _ _ hw hx next Q hn
 obtain ⟨v, hrun, hv⟩ := h S μ a hx
 unfold Oper.wp
 rw [hrun w hw.snap]
 exact hn S μ v w (SExt.refl S) (SFresh.refl _ S) (MuStep.refl _ _ _) hw hv (Grow.refl w)
inductive TRun (P : Program) (all : Array Oper) (Γ : List Ob) : List Oper → List (Nat × AV) → List (Nat × AV) → List (List (Nat × List AV)) → List Bool → Prop
 | nil (τ : List (Nat × AV)) : TRun P all Γ [] τ τ [] []
 | op {o : Oper} {rest : List Oper} {τ τ' : List (Nat × AV)} {r : AV} {fs : List (Nat × List AV)} {fss : List (List (Nat × List AV))} {bs : List Bool} (hw : wantT all τ o = some true) (ht : TOp P o τ Γ r fs) (h : TRun P all Γ rest (put τ o.dst r) τ' fss bs) : TRun P all Γ (o :: rest) τ τ' (fs :: fss) (false :: bs)
 | loose {o : Oper} {rest : List Oper} {τ τ' : List (Nat × AV)} {r : AV} {fss : List (List (Nat × List AV))} {bs : List Bool} (hw : wantT all τ o = some true) (ht : LOp P o τ r) (h : TRun P all Γ rest (put τ o.dst r) τ' fss bs) : TRun P all Γ (o :: rest) τ τ' ([] :: fss) (true :: bs)
 | skip {o : Oper} {rest : List Oper} {τ τ' : List (Nat × AV)} {fss : List (List (Nat × List AV))} {bs : List Bool} (hw : wantT all τ o = some false) (h : TRun P all Γ rest (put τ o.dst (.x undef)) τ' fss bs) : TRun P all Γ (o :: rest) τ τ' ([] :: fss) (false :: bs)
def TAt (P : Program) (all : Array Oper) (Γ : List Ob) (o : Oper) (τ : List (Nat × AV)) (r : AV) (fs : List (Nat × List AV)) (b : Bool) : Prop :=
 (wantT all τ o = some true ∧ TOp P o τ Γ r fs ∧ b = false) ∨ (wantT all τ o = some true ∧ LOp P o τ r ∧ fs = [] ∧ b = true) ∨ (wantT all τ o = some false ∧ r = .x undef ∧ fs = [] ∧ b = false)
def putAll : List (Nat × AV) → List Oper → List AV → List (Nat × AV)
 | τ, o :: os, v :: vs => putAll (put τ o.dst v) os vs
 | τ, _, _ => τ
theorem TRun.chain {P : Program} {all : Array Oper} {Γ : List Ob} {hd : List Oper} {τ τ' : List (Nat × AV)} {fss : List (List (Nat × List AV))} {bs : List Bool} (h : TRun P all Γ hd τ τ' fss bs) :
  fss.length = hd.length ∧ bs.length = hd.length ∧ ∃ vs : List AV, vs.length = hd.length ∧ τ' = putAll τ hd vs ∧
   ∀ (i : Nat) (o : Oper) (v : AV) (fs : List (Nat × List AV)) (b : Bool), hd[i]? = some o → vs[i]? = some v → fss[i]? = some fs → bs[i]? = some b → TAt P all Γ o (putAll τ (hd.take i) (vs.take i)) v fs b := by
 induction h with
 | nil τ => exact ⟨rfl, rfl, [], rfl, rfl, by simp⟩
 | @op o rest τ τ' r fs fss bs hw ht h ih =>
  obtain ⟨h0, h0', vs, h1, h2, h3⟩ := ih
  refine ⟨by simp [h0], by simp [h0'], r :: vs, by simp [h1], by simpa [putAll] using h2, ?_⟩
  intro i o' v f b ho hv hf hb
  cases i with
  | zero =>
   simp at ho hv hf hb
   subst ho; subst hv; subst hf; subst hb
   exact Or.inl ⟨by simpa [putAll] using hw, by simpa [putAll] using ht, rfl⟩
  | succ i =>
   simp at ho hv hf hb
   simpa [putAll] using h3 i o' v f b ho hv hf hb
 | @loose o rest τ τ' r fss bs hw ht h ih =>
  obtain ⟨h0, h0', vs, h1, h2, h3⟩ := ih
  refine ⟨by simp [h0], by simp [h0'], r :: vs, by simp [h1], by simpa [putAll] using h2, ?_⟩
  intro i o' v f b ho hv hf hb
  cases i with
  | zero =>
   simp at ho hv hf hb
   subst ho; subst hv; subst hf; subst hb
   exact Or.inr (Or.inl ⟨by simpa [putAll] using hw, by simpa [putAll] using ht, rfl, rfl⟩)
  | succ i =>
   simp at ho hv hf hb
   simpa [putAll] using h3 i o' v f b ho hv hf hb
 | @skip o rest τ τ' fss bs hw h ih =>
  obtain ⟨h0, h0', vs, h1, h2, h3⟩ := ih
  refine ⟨by simp [h0], by simp [h0'], .x undef :: vs, by simp [h1], by simpa [putAll] using h2, ?_⟩
  intro i o' v f b ho hv hf hb
  cases i with
  | zero =>
   simp at ho hv hf hb
   subst ho; subst hv; subst hf; subst hb
   exact Or.inr (Or.inr ⟨by simpa [putAll] using hw, rfl, rfl, rfl⟩)
  | succ i =>
   simp at ho hv hf hb
   simpa [putAll] using h3 i o' v f b ho hv hf hb
theorem fillOb1_length (Γ : List Ob) (f : Nat × List AV) : (fillOb1 Γ f).length = Γ.length := by unfold fillOb1; split <;> simp
theorem fillOb_length : ∀ (fs : List (Nat × List AV)) (Γ : List Ob), (fillOb Γ fs).length = Γ.length
 | [], _ => rfl
 | f :: fs, Γ => by
  show (fillOb (fillOb1 Γ f) fs).length = _
  rw [fillOb_length fs, fillOb1_length]
theorem fillOb1_ne {Γ : List Ob} {f : Nat × List AV} {i : Nat} (h : f.1 ≠ i) : (fillOb1 Γ f)[i]? = Γ[i]? := by
 unfold fillOb1
 split
 ·rw [List.getElem?_set_ne h]
 ·rfl
theorem fillOb_ne {i : Nat} : ∀ {fs : List (Nat × List AV)} {Γ : List Ob}, (∀ f ∈ fs, f.1 ≠ i) → (fillOb Γ fs)[i]? = Γ[i]?
 | [], _, _ => rfl
 | f :: fs, Γ, h => by
  show (fillOb (fillOb1 Γ f) fs)[i]? = _
  rw [fillOb_ne fun g hg => h g (by simp [hg]), fillOb1_ne (h f (by simp))]
theorem fillOb_at : ∀ {fs : List (Nat × List AV)} {Γ : List Ob} {f : Nat × List AV}, (fs.map (·.1)).Nodup → f ∈ fs → (fillOb Γ fs)[f.1]? = Γ[f.1]?.map fun g => ⟨g.ver + 1, some f.2⟩
 | [], _, _, _, h => by cases h
 | g :: fs, Γ, f, hn, h => by
  simp only [List.map_cons, List.nodup_cons] at hn
  show (fillOb (fillOb1 Γ g) fs)[f.1]? = _
  rcases List.mem_cons.1 h with e | h
  ·subst e
   rw [fillOb_ne fun k hk e => hn.1 (by rw [← e]; exact List.mem_map_of_mem hk)]
   unfold fillOb1
   split
   ·rename_i x hx
    rw [hx]
    have := lt_of_getElem? hx
    simp [this]
   ·rename_i hx; rw [hx]; rfl
  ·rw [fillOb_at hn.2 h, fillOb1_ne fun e => hn.1 (by rw [e]; exact List.mem_map_of_mem h)]
def dstsApart : List Oper → Bool
 | [] => true
 | o :: rest => (rest.all fun p => match o.dst, p.dst with | some d, some e => d != e | _, _ => true) && dstsApart rest
theorem dstsApart_spec {d : Nat} : ∀ {l : List Oper}, dstsApart l = true → ∀ {i j : Nat} {o p : Oper}, l[i]? = some o → l[j]? = some p → o.dst = some d → p.dst = some d → i = j
 | [], _, i, _, _, _, hi, _, _, _ => by simp at hi
 | q :: rest, h, i, j, o, p, hi, hj, ho, hp => by
  simp only [dstsApart, Bool.and_eq_true, List.all_eq_true] at h
  cases i with
  | zero =>
   cases j with
   | zero => rfl
   | succ j =>
    simp at hi hj
    subst hi
    have := h.1 p (List.mem_of_getElem? hj)
    simp [ho, hp] at this
  | succ i =>
   cases j with
   | zero =>
    simp at hi hj
    subst hj
    have := h.1 o (List.mem_of_getElem? hi)
    simp [ho, hp] at this
   | succ j =>
    simp at hi hj
    rw [dstsApart_spec h.2 hi hj ho hp]
theorem look_putAll_none {t : Nat} : ∀ (l : List Oper) (vs : List AV) (τ : List (Nat × AV)), (∀ (j : Nat) (o : Oper), l[j]? = some o → o.dst ≠ some t) → look (putAll τ l vs) t = look τ t
 | [], _, _, _ => rfl
 | _ :: _, [], _, _ => rfl
 | o :: rest, v :: vs, τ, h => by
  simp only [putAll]
  rw [look_putAll_none rest vs _ fun j p hp => h (j + 1) p (by simpa using hp)]
  have h0 := h 0 o rfl
  cases hd : o.dst with
  | none => rfl
  | some d =>
   rw [hd] at h0
   simp only [put, look]
   rw [if_neg fun e => h0 (by rw [e])]
theorem look_putAll_some {t : Nat} : ∀ (l : List Oper) (vs : List AV) (τ : List (Nat × AV)) (j : Nat) (o : Oper) (v : AV), dstsApart l = true → l[j]? = some o → vs[j]? = some v → o.dst = some t → look (putAll τ l vs) t = v
 | [], _, _, j, _, _, _, h, _, _ => by simp at h
 | _ :: _, [], _, j, _, _, _, _, h, _ => by simp at h
 | q :: rest, u :: vs, τ, 0, o, v, hap, ho, hv, hd => by
  simp at ho hv
  subst ho; subst hv
  simp only [putAll]
  rw [look_putAll_none rest vs _ fun j p hp he => by
   have := dstsApart_spec hap (i := 0) (j := j + 1) rfl (by simpa using hp) hd he
   omega]
  simp [put, hd, look]
 | q :: rest, u :: vs, τ, j + 1, o, v, hap, ho, hv, hd => by
  simp at ho hv
  simp only [dstsApart, Bool.and_eq_true] at hap
  simp only [putAll]
  exact look_putAll_some rest vs _ j o v hap.2 ho hv hd
def drawOk (all : Array Oper) (bs : List Bool) : Bool :=
 let n := bs.length
 dstsApart (all.toList.take n) &&
 ((List.range all.size).all fun i => match all[i]? with
  | none => false
  | some oi => oi.after.toList.all fun e => !Region.binds .any e || decide (e.on < i)) &&
 ((List.range n).all fun i => match all[i]? with
  | none => false
  | some oi => (List.range n).all fun j => match (all[j]?).bind (·.dst) with
    | none => true
    | some d => i == j || !(oi.looksAt all).contains d || (if j < i then Region.waitsFor .any all i j else Region.waitsFor .any all j i)) &&
 (decide (n = all.size) || (decide (n < all.size) && Region.chainB .any all n &&
  (List.range n).all fun i => bs.getD i false || (List.range (n + 1)).any fun j => decide (i < j) && (decide (j = n) || !bs.getD j false) && Region.waitsFor .any all j i)) &&
 ((List.range n).all fun i => !bs.getD i false || match all[i]? with
  | none => false
  | some oi => (List.range all.size).all fun j => match all[j]? with
    | none => true
    | some oj => i == j || Region.waitsFor .any all j i || Region.waitsFor .any all i j || oi.apart all oj) &&
 Region.noSelect all
theorem drawOk_edges {all : Array Oper} {bs : List Bool} (h : drawOk all bs = true) {i : Nat} {o : Oper} (hi : all[i]? = some o) : ∀ e ∈ o.after, Region.binds .any e = true → e.on < i := by
 simp only [drawOk, Bool.and_eq_true] at h
 have h1 := List.all_eq_true.1 h.1.1.1.1.2 i (List.mem_range.2 (Array.getElem?_eq_some_iff.1 hi).1)
 rw [hi] at h1
 dsimp only at h1
 intro e he hb
 have h2 := List.all_eq_true.1 h1 e (Array.mem_toList_iff.2 he)
 simpa [hb] using h2
theorem drawOk_apart {all : Array Oper} {bs : List Bool} (h : drawOk all bs = true) : dstsApart (all.toList.take bs.length) = true := by
 simp only [drawOk, Bool.and_eq_true] at h
 exact h.1.1.1.1.1
theorem drawOk_noSelect {all : Array Oper} {bs : List Bool} (h : drawOk all bs = true) : Region.noSelect all = true := by
 simp only [drawOk, Bool.and_eq_true] at h
 exact h.2
theorem drawOk_loose {all : Array Oper} {bs : List Bool} (h : drawOk all bs = true) {i j : Nat} {oi oj : Oper} (hb : bs.getD i false = true) (hi : all[i]? = some oi) (hj : all[j]? = some oj) (hne : j ≠ i) :
  Region.waitsFor .any all j i = true ∨ Region.waitsFor .any all i j = true ∨ oi.apart all oj = true := by
 simp only [drawOk, Bool.and_eq_true] at h
 have hin : i < bs.length := by
  rcases Nat.lt_or_ge i bs.length with h' | h'
  ·exact h'
  ·simp [List.getD, List.getElem?_eq_none h'] at hb
 have h1 := List.all_eq_true.1 h.1.2 i (List.mem_range.2 hin)
 rw [hb, hi] at h1
 simp only [Bool.not_true, Bool.false_or] at h1
 have h2 := List.all_eq_true.1 h1 j (List.mem_range.2 (Array.getElem?_eq_some_iff.1 hj).1)
 rw [hj] at h2
 simp only [Bool.or_eq_true, beq_iff_eq] at h2
 rcases h2 with ((h2 | h2) | h2) | h2
 ·exact absurd h2.symm hne
 ·exact .inl h2
 ·exact .inr (.inl h2)
 ·exact .inr (.inr h2)
theorem drawOk_dep {all : Array Oper} {bs : List Bool} (h : drawOk all bs = true) {i j : Nat} {oi oj : Oper} {d : Nat} (hin : i < bs.length) (hjn : j < bs.length) (hi : all[i]? = some oi) (hj : all[j]? = some oj) (hd : oj.dst = some d) (hl : d ∈ oi.looksAt all) (hne : i ≠ j) :
  if j < i then Region.waitsFor .any all i j = true else Region.waitsFor .any all j i = true := by
 simp only [drawOk, Bool.and_eq_true] at h
 have h1 := List.all_eq_true.1 h.1.1.1.2 i (List.mem_range.2 hin)
 rw [hi] at h1
 dsimp only at h1
 have h2 := List.all_eq_true.1 h1 j (List.mem_range.2 hjn)
 simp only [hj, Option.bind_some, hd] at h2
 simp only [Bool.or_eq_true, beq_iff_eq, hne, false_or] at h2
 rcases h2 with h2 | h2
 ·simp at h2; exact absurd hl h2
 ·split
  ·rename_i e; rw [if_pos e] at h2; exact h2
  ·rename_i e; rw [if_neg e] at h2; exact h2
theorem drawOk_tail {all : Array Oper} {bs : List Bool} (h : drawOk all bs = true) : bs.length = all.size ∨ (bs.length < all.size ∧ Region.chainB .any all bs.length = true ∧
  ∀ i, i < bs.length → bs.getD i false = false → ∃ j, i < j ∧ j ≤ bs.length ∧ (j = bs.length ∨ bs.getD j false = false) ∧ Region.waitsFor .any all j i = true) := by
 simp only [drawOk, Bool.and_eq_true, Bool.or_eq_true, decide_eq_true_eq] at h
 rcases h.1.1.2 with h | h
 ·exact .inl h
 ·refine .inr ⟨h.1.1, h.1.2, fun i hi hb => ?_⟩
  have h1 := List.all_eq_true.1 h.2 i (List.mem_range.2 hi)
  rw [hb, Bool.false_or] at h1
  obtain ⟨j, hj, hj2⟩ := List.any_eq_true.1 h1
  simp only [Bool.and_eq_true, decide_eq_true_eq, Bool.or_eq_true, Bool.not_eq_true'] at hj2
  have := List.mem_range.1 hj
  exact ⟨j, hj2.1.1, by omega, hj2.1.2, hj2.2⟩
theorem tail_waits2 {all : Array Oper} {bs : List Bool} {listed : Array Bool} (hc : Region.chainB .any all bs.length = true) (hs : ∀ i, i < bs.length → bs.getD i false = false → ∃ j, i < j ∧ j ≤ bs.length ∧ (j = bs.length ∨ bs.getD j false = false) ∧ Region.waitsFor .any all j i = true)
  (hn : bs.length < all.size) (inv : HeadInv .any all bs.length listed) :
  ∀ (d i : Nat), bs.length - i = d → i < bs.length → bs.getD i false = false → listed.getD i true = false → ∀ t, bs.length ≤ t → t ∉ Region.ready .any all listed := by
 intro d
 induction d using Nat.strongRecOn with
 | _ d ih =>
  intro i hd hi hb hun t ht hr
  obtain ⟨_, ot, hot, hall⟩ := mem_ready.1 hr
  have htlt : t < all.size := (Array.getElem?_eq_some_iff.1 hot).1
  by_cases htn : t = bs.length
  ·obtain ⟨j, hij, hjn, hjb, hj2⟩ := hs i hi hb
   obtain ⟨oj, hoj, e, he, hbd, hon⟩ := Region.waitsFor_spec hj2
   by_cases hjt : j = t
   ·subst hjt
    have : oj = ot := Option.some.inj (hoj.symm.trans hot)
    subst this
    have h2 := hall e he hbd
    rw [hon, getD_both hun] at h2
    cases h2
   ·have hjlt : j < bs.length := by omega
    have hjb' : bs.getD j false = false := by
     rcases hjb with h | h
     ·omega
     ·exact h
    cases hl : listed.getD j false with
    | true =>
     have h2 := inv.closed j oj hoj hl e he hbd
     rw [hon, getD_both hun] at h2
     cases h2
    | false =>
     have hjs : j < listed.size := by rw [inv.size]; omega
     exact ih (bs.length - j) (by omega) j rfl hjlt hjb' (getD_in hjs hl) t ht hr
  ·have h1 := List.all_eq_true.1 hc t (List.mem_range.2 htlt)
   simp only [Bool.or_eq_true, decide_eq_true_eq] at h1
   rcases h1 with h1 | h1
   ·omega
   ·obtain ⟨o', ho', e, he, hbd, hon⟩ := Region.waitsFor_spec h1
    have : o' = ot := Option.some.inj (ho'.symm.trans hot)
    subst this
    have h2 := hall e he hbd
    rw [hon, getD_both (inv.tail (t - 1) (by omega) (by omega))] at h2
    cases h2
theorem wpAnyH_mono {P : Program} {md : Region.Mode} {ops : Array Oper} {Q : Exit → Act → World → Prop} {C C' : World → Prop} (hC : ∀ w, C w → C' w) : ∀ (fuel : Nat) (listed : Array Bool) (a : Act) (w : World), wpAnyH P md ops Q C fuel listed a w → wpAnyH P md ops Q C' fuel listed a w
 | 0, _, _, _, h => h
 | fuel + 1, _, _, _, h => ⟨h.1, fun i hi => wpOp_mono (fun a' w' h' => ⟨hC w' h'.1, wpAnyH_mono hC fuel _ a' w' h'.2⟩) (h.2 i hi)⟩
theorem wpAny_rest {P : Program} {all : Array Oper} {bs : List Bool} {Q : Exit → Act → World → Prop} {C : World → Prop} (hok : drawOk all bs = true) : ∀ (l : List Oper) (k : Nat) (listed : Array Bool) (a : Act) (w : World),
  bs.length ≤ k → k + l.length = all.size → (∀ j, j < l.length → all[k + j]? = l[j]?) → listed.size = all.size → (∀ j, j < all.size → listed.getD j false = decide (j < k)) → C w → wpL P all Q C l a w → wpAnyH P .any all Q C l.length listed a w
 | [], k, listed, a, w, _, hk, _, hs, hl, _, h => by
  refine ⟨?_, h⟩
  refine List.eq_nil_iff_forall_not_mem.2 fun i hi => ?_
  obtain ⟨h0, o, ho, _⟩ := mem_ready.1 hi
  have hi' := (Array.getElem?_eq_some_iff.1 ho).1
  have := hl i hi'
  rw [getD_both h0] at this
  simp at this
  simp at hk
  omega
 | o :: rest, k, listed, a, w, hn, hk, ha, hs, hl, hCw, h => by
  have hk' : k < all.size := by simp at hk; omega
  have ho : all[k]? = some o := by have := ha 0 (by simp); simpa using this
  have hready : ∀ i, i ∈ Region.ready .any all listed → i = k := by
   intro i hi
   obtain ⟨h0, oi, hoi, hall⟩ := mem_ready.1 hi
   have hi' := (Array.getElem?_eq_some_iff.1 hoi).1
   have h1 := hl i hi'
   rw [getD_both h0] at h1
   simp at h1
   rcases Nat.lt_or_ge k i with hlt | hge
   ·exfalso
    rcases drawOk_tail hok with e | ⟨_, hc, _⟩
    ·omega
    ·have h2 := List.all_eq_true.1 hc i (List.mem_range.2 hi')
     simp only [Bool.or_eq_true, decide_eq_true_eq] at h2
     rcases h2 with h2 | h2
     ·omega
     ·obtain ⟨o', ho', e, he, hb, hon⟩ := Region.waitsFor_spec h2
      rw [hoi] at ho'
      simp at ho'
      subst ho'
      have h3 := hall e he hb
      rw [hon, hl (i - 1) (by omega)] at h3
      simp at h3
      omega
   ·omega
  have hmem : k ∈ Region.ready .any all listed := by
   refine mem_ready.2 ⟨getD_in (by omega) (by rw [hl k hk']; simp), o, ho, fun e he hb => ?_⟩
   have := drawOk_edges hok ho e he hb
   rw [hl e.on (by omega)]
   simpa using this
  refine ⟨fun hnil => ?_, fun i hi => ?_⟩
  ·rw [hnil] at hmem; cases hmem
  ·have := hready i hi
   subst this
   have hnext : ∀ a w, C w → wpL P all Q C rest a w → wpAnyH P .any all Q C rest.length (listed.setIfInBounds i true) a w := by
    intro a w hCw h
    refine wpAny_rest hok rest (i + 1) _ a w (by omega) (by simp at hk; omega) (fun j hj => ?_) (by simpa using hs) (fun j hj => ?_) hCw h
    ·have := ha (j + 1) (by simp; omega)
     rw [show i + (j + 1) = i + 1 + j from by omega] at this
     simpa using this
    ·by_cases e : i = j
     ·subst e; simp [hs, hj]
     ·rw [getD_set_ne false e, hl j hj]
      by_cases e2 : j < i
      ·rw [decide_eq_true e2, decide_eq_true (by omega)]
      ·rw [decide_eq_false e2, decide_eq_false (by omega)]
   simp only [wpL] at h
   unfold wpOp
   rw [ho]
   dsimp only
   split
   ·rename_i e; rw [if_pos e] at h; exact .inl (Oper.wp_mono (fun a w h => ⟨h.1, hnext a w h.1 h.2⟩) h)
   ·rename_i e; rw [if_neg e] at h; exact ⟨hCw, hnext _ _ hCw h⟩
structure JInv (S0 : Snap) (μ0 : List Mu) (w0 : World) (N : Nat) (τ : List (Nat × AV)) (Γ : List Ob) (hd : List Oper) (vs : List AV) (fss : List (List (Nat × List AV))) (S : Snap) (listed : Array Bool) (a : Act) (w : World) : Prop where
 ex : ∃ μ Γc, FrI S0 μ0 w0 S μ w ∧ WI S μ Γc w ∧ Γc.length = Γ.length ∧
  (∀ (j : Nat) (fs : List (Nat × List AV)) (f : Nat × List AV), fss[j]? = some fs → f ∈ fs → listed.getD j false = true → Γc[f.1]? = Γ[f.1]?.map fun g => ⟨g.ver + 1, some f.2⟩) ∧
  (∀ i, (∀ (j : Nat) (fs : List (Nat × List AV)) (f : Nat × List AV), fss[j]? = some fs → f ∈ fs → listed.getD j false = true → f.1 ≠ i) → Γc[i]? = Γ[i]?) ∧
  (∀ (j : Nat) (o : Oper) (v : AV) (d : Nat), hd[j]? = some o → vs[j]? = some v → listed.getD j false = true → o.dst = some d → V S μ v (a.tmps.getD d undef)) ∧
  (∀ t, (∀ (j : Nat) (o : Oper), hd[j]? = some o → listed.getD j false = true → o.dst ≠ some t) → V S μ (look τ t) (a.tmps.getD t undef))
 tsz : TZ N μ0 a.tmps.size
 dfr : a.defers = []
def fillsOk (Γ : List Ob) (fs : List (Nat × List AV)) : Prop := (fs.map (·.1)).Nodup ∧ ∀ f ∈ fs, ∃ ver, Γ[f.1]? = some ⟨ver, none⟩
theorem flat_idx {α : Type} {ll : List (List α)} {j k : Nat} {l l' : List α} {a a' : α} {g : α → Nat} (hn : (ll.flatten.map g).Nodup) (hj : ll[j]? = some l) (hk : ll[k]? = some l') (ha : a ∈ l) (ha' : a' ∈ l') (he : g a = g a') : j = k := by
 induction ll generalizing j k with
 | nil => simp at hj
 | cons x ll ih =>
  simp only [List.flatten_cons, List.map_append] at hn
  have hn3 := (List.nodup_append.1 hn).2.2
  cases j with
  | zero =>
   cases k with
   | zero => rfl
   | succ k =>
    simp at hj hk
    subst hj
    exfalso
    exact hn3 (g a) (List.mem_map_of_mem ha) (g a') (List.mem_map_of_mem (List.mem_flatten.2 ⟨l', List.mem_of_getElem? hk, ha'⟩)) he
  | succ j =>
   cases k with
   | zero =>
    simp at hj hk
    subst hk
    exfalso
    exact hn3 (g a') (List.mem_map_of_mem ha') (g a) (List.mem_map_of_mem (List.mem_flatten.2 ⟨l, List.mem_of_getElem? hj, ha⟩)) he.symm
   | succ k =>
    simp at hj hk
    rw [ih (List.nodup_append.1 hn).2.1 hj hk]
theorem count_set {l : List Bool} {i : Nat} (h : l[i]? = some false) : (l.set i true).count false + 1 = l.count false := by
 induction l generalizing i with
 | nil => simp at h
 | cons b l ih =>
  cases i with
  | zero => simp at h; subst h; simp
  | succ i =>
   simp at h
   have := ih h
   simp only [List.set_cons_succ, List.count_cons]
   omega
theorem tmp_mem_looksAt {all : Array Oper} {o : Oper} {t : Nat} (h : Operand.tmp t ∈ o.op.operands) : t ∈ o.looksAt all := by
 unfold Oper.looksAt
 exact List.mem_append.2 (.inl (List.mem_filterMap.2 ⟨_, Array.mem_toList_iff.2 h, rfl⟩))
theorem guard_mem_looksAt {all : Array Oper} {o : Oper} {j d : Nat} {want : Bool} (hg : o.guard = some (j, want)) (hd : (all[j]?).bind (·.dst) = some d) : d ∈ o.looksAt all := by
 unfold Oper.looksAt
 refine List.mem_append.2 (.inr ?_)
 rw [hg]
 simp [hd]
theorem dstsApart_take : ∀ (l : List Oper) (k : Nat), dstsApart l = true → dstsApart (l.take k) = true
 | [], k, _ => by simp [dstsApart]
 | q :: l, 0, _ => by simp [dstsApart]
 | q :: l, k + 1, h => by
  simp only [dstsApart, Bool.and_eq_true, List.all_eq_true, List.take_succ_cons] at h ⊢
  exact ⟨fun p hp => h.1 p (List.mem_of_mem_take hp), dstsApart_take l k h.2⟩
theorem JInv.step {all : List Oper} {bs : List Bool} {N : Nat} {S0 : Snap} {μ0 : List Mu} {w0 : World} {τ : List (Nat × AV)} {Γ : List Ob} {vs : List AV} {fss : List (List (Nat × List AV))} {S : Snap} {listed : Array Bool} {a : Act} {w : World}
  (hfl : fillsOk Γ fss.flatten) (hok : drawOk all.toArray bs = true) (hdst : (all.take bs.length).all (dstLt N) = true)
  (hinv : HeadInv .any all.toArray bs.length listed) (hJ : JInv S0 μ0 w0 N τ Γ (all.take bs.length) vs fss S listed a w)
  {i : Nat} {o : Oper} {v : AV} {fs : List (Nat × List AV)} (hi : i ∈ Region.ready .any all.toArray listed) (hin : i < bs.length) (hoL : (all.take bs.length)[i]? = some o) (hv : vs[i]? = some v) (hfsi : fss[i]? = some fs) (hvs : vs.length = (all.take bs.length).length) :
  ∃ μ Γc, FrI S0 μ0 w0 S μ w ∧ WI S μ Γc w ∧ LiveLe Γ Γc ∧ (∀ f ∈ fs, Γc[f.1]? = Γ[f.1]?) ∧
   (∀ t, t ∈ o.looksAt all.toArray → V S μ (look (putAll τ ((all.take bs.length).take i) (vs.take i)) t) (a.tmps.getD t undef)) ∧
   ∀ (S' : Snap) (μ' : List Mu) (u : Value) (w' : World), SExt S S' → MuLe w.heap.size μ μ' → WI S' μ' (fillOb Γc fs) w' → V S' μ' v u → FrI S0 μ0 w0 S' μ' w' →
    JInv S0 μ0 w0 N τ Γ (all.take bs.length) vs fss S' (listed.setIfInBounds i true) (a.put o.dst u) w' := by
 have hnle : bs.length ≤ all.length := by
  rcases drawOk_tail hok with e | ⟨e, _⟩
  ·simp at e; omega
  ·simp at e; omega
 have hdl : (all.take bs.length).length = bs.length := by simp; omega
 have hap' : dstsApart (all.take bs.length) = true := by simpa using drawOk_apart hok
 have hget : ∀ {i : Nat}, i < bs.length → (all.take bs.length)[i]? = all[i]? := fun {i} hi => by rw [List.getElem?_take, if_pos hi]
 obtain ⟨hun, o', ho, hall⟩ := mem_ready.1 hi
 have hoo : o' = o := by
  rw [hget hin] at hoL
  have : all[i]? = some o' := by simpa using ho
  rw [hoL] at this; simp at this; exact this.symm
 subst hoo
 have hio : i < all.length := by omega
 obtain ⟨μ, Γc, hfr, hwi, hlen, hf1, hf2, h1, h2⟩ := hJ.ex
 have hiu : listed.getD i false = false := getD_both hun
 have hdlt : ∀ d, o'.dst = some d → d < N / 2 := fun d hd => dstLt_spec (List.all_eq_true.1 hdst o' (List.mem_of_getElem? hoL)) d hd
 refine ⟨μ, Γc, hfr, hwi, ?_, ?_, ?_, ?_⟩
 ·refine ⟨hlen, fun k ver l hk => ?_⟩
  rw [hf2 k fun j fs' f' hj hf' _ e => ?_]
  ·exact hk
  ·obtain ⟨ver', hv'⟩ := hfl.2 f' (List.mem_flatten.2 ⟨fs', List.mem_of_getElem? hj, hf'⟩)
   rw [e, hk] at hv'
   simp at hv'
 ·intro f hf
  refine hf2 f.1 fun j fs' f' hj hf' hl e => ?_
  have := flat_idx (g := (·.1)) hfl.1 hj hfsi hf' hf e
  subst this
  rw [hiu] at hl; cases hl
 ·intro t ht
  by_cases hw : ∃ (j : Nat) (p : Oper), (all.take bs.length)[j]? = some p ∧ p.dst = some t
  ·obtain ⟨j, p, hp, hd⟩ := hw
   have hj : j < bs.length := by have := lt_of_getElem? hp; omega
   have hpa : all.toArray[j]? = some p := by rw [hget hj] at hp; simpa using hp
   obtain ⟨u, hu⟩ : ∃ u, vs[j]? = some u := getElem?_of_lt (by omega)
   rcases Nat.lt_or_ge j i with hlt | hge
   ·have hdep := drawOk_dep hok hin hj ho hpa hd ht (by omega)
    rw [if_pos hlt] at hdep
    obtain ⟨o'', ho', e, he, hb, hon⟩ := Region.waitsFor_spec hdep
    rw [ho] at ho'; simp at ho'; subst ho'
    have hlj : listed.getD j false = true := by rw [← hon]; exact hall e he hb
    rw [look_putAll_some _ _ _ j p u (dstsApart_take _ i hap') (by rw [List.getElem?_take, if_pos hlt]; exact hp) (by rw [List.getElem?_take, if_pos hlt]; exact hu) hd]
    exact h1 j p u t hp hu hlj hd
   ·have hnl : listed.getD j false = false := by
     rcases Nat.eq_or_lt_of_le hge with e | hgt
     ·subst e; exact hiu
     ·have hdep := drawOk_dep hok hin hj ho hpa hd ht (by omega)
      rw [if_neg (by omega)] at hdep
      obtain ⟨p', hp', e, he, hb, hon⟩ := Region.waitsFor_spec hdep
      rw [hpa] at hp'; simp at hp'; subst hp'
      cases hlj : listed.getD j false with
      | false => rfl
      | true =>
       have := hinv.closed j p hpa hlj e he hb
       rw [hon, hiu] at this
       cases this
    rw [look_putAll_none _ _ _ fun j' p' hp' hd' => by
     have hj' : j' < i := by
      have := lt_of_getElem? hp'
      simp at this; omega
     rw [List.getElem?_take, if_pos hj'] at hp'
     have := dstsApart_spec hap' hp' hp hd' hd
     omega]
    exact h2 t fun j' p' hp' hl' hd' => by
     have := dstsApart_spec hap' hp' hp hd' hd
     subst this
     rw [hnl] at hl'
     cases hl'
  ·rw [look_putAll_none _ _ _ fun j' p' hp' hd' => hw ⟨j', p', by
    have hj' : j' < i := by
     have := lt_of_getElem? hp'
     simp at this; omega
    rwa [List.getElem?_take, if_pos hj'] at hp', hd'⟩]
   exact h2 t fun j' p' hp' _ hd' => hw ⟨j', p', hp', hd'⟩
 ·intro S' μ' u w' hS hM hwi' hvu hfr'
  have hil : i < listed.size := by have := hinv.size; simp at this; omega
  have hfn : (fs.map (·.1)).Nodup := by
   obtain ⟨hil2, hie⟩ := List.getElem?_eq_some_iff.1 hfsi
   have hsub : List.Sublist fs fss.flatten := by rw [← hie]; exact List.sublist_flatten_of_mem (List.getElem_mem hil2)
   exact List.Nodup.sublist (hsub.map _) hfl.1
  have hdead : ∀ f ∈ fs, Γc[f.1]? = Γ[f.1]? := by
   intro f hf
   refine hf2 f.1 fun j fs' f' hj hf' hl e => ?_
   have := flat_idx (g := (·.1)) hfl.1 hj hfsi hf' hf e
   subst this
   rw [hiu] at hl; cases hl
  refine ⟨⟨μ', fillOb Γc fs, hfr', hwi', by rw [fillOb_length, hlen], ?_, ?_, ?_, ?_⟩, by rw [put_size]; exact hJ.tsz, by rw [put_defers]; exact hJ.dfr⟩
  ·intro j fs' f hj hf hl
   by_cases e : j = i
   ·subst e
    rw [hfsi] at hj; simp at hj; subst hj
    rw [fillOb_at hfn hf, hdead f hf]
   ·rw [getD_set_ne false (Ne.symm e)] at hl
    rw [fillOb_ne fun k hk ek => e (flat_idx (g := (·.1)) hfl.1 hj hfsi hf hk ek.symm)]
    exact hf1 j fs' f hj hf hl
  ·intro k hk
   rw [fillOb_ne fun f hf => hk i fs f hfsi hf (by simp [hil])]
   exact hf2 k fun j fs' f hj hf hl => hk j fs' f hj hf (getD_set_true hl)
  ·intro j p x d hp hx hl hd
   by_cases e : j = i
   ·subst e
    rw [hoL] at hp; simp at hp; subst hp
    rw [hv] at hx; simp at hx; subst hx
    have hdN : d < a.tmps.size := by rw [hJ.tsz.1]; exact hdlt d hd
    simp only [Act.put, hd, Array.getD_eq_getD_getElem?, Array.getElem?_setIfInBounds_self_of_lt hdN, Option.getD_some]
    exact hvu
   ·rw [getD_set_ne false (Ne.symm e)] at hl
    have h3 := V.mono hS hM _ _ (h1 j p x d hp hx hl hd)
    have hne : ∀ d', o'.dst = some d' → d' ≠ d := fun d' hd' e' => by
     subst e'
     exact e (dstsApart_spec hap' hp hoL hd hd')
    cases hod : o'.dst with
    | none => exact h3
    | some d' =>
     simp only [Act.put, Array.getD_eq_getD_getElem?, Array.getElem?_setIfInBounds_ne (hne d' hod)]
     simpa only [Array.getD_eq_getD_getElem?] using h3
  ·intro t ht
   have hto : o'.dst ≠ some t := ht i o' hoL (by simp [hil])
   have h3 : V S' μ' (look τ t) (a.tmps.getD t undef) := V.mono hS hM _ _ (h2 t fun j p hp hl => ht j p hp (getD_set_true hl))
   cases hod : o'.dst with
   | none => exact h3
   | some d' =>
    have hne : d' ≠ t := fun e => hto (by rw [hod, e])
    simp only [Act.put, Array.getD_eq_getD_getElem?, Array.getElem?_setIfInBounds_ne hne]
    simpa only [Array.getD_eq_getD_getElem?] using h3
def np (Q : PQ) : PQ := fun e => match e with
 | .panic _ => fun _ _ => False
 | e => Q e
theorem wpAny_tame {P : Program} {all : List Oper} {bs : List Bool} {N : Nat} {S0 : Snap} {μ0 : List Mu} {w0 : World} {τ : List (Nat × AV)} {Γ : List Ob} {vs : List AV} {fss : List (List (Nat × List AV))} {Q : PQ}
  (hfl : fillsOk Γ fss.flatten) (hfs : fss.length = (all.take bs.length).length) (hok : drawOk all.toArray bs = true) (hdst : (all.take bs.length).all (dstLt N) = true) (hvs : vs.length = (all.take bs.length).length)
  (hat : ∀ (i : Nat) (o : Oper) (v : AV) (fs : List (Nat × List AV)) (b : Bool), (all.take bs.length)[i]? = some o → vs[i]? = some v → fss[i]? = some fs → bs[i]? = some b → TAt P all.toArray Γ o (putAll τ ((all.take bs.length).take i) (vs.take i)) v fs b)
  (htl : ROps P N all.toArray (all.drop bs.length) (putAll τ (all.take bs.length) vs) (fillOb Γ fss.flatten) (np Q)) :
  ∀ (fuel : Nat) (S : Snap) (listed : Array Bool) (a : Act) (w : World), HeadInv .any all.toArray bs.length listed → listed.toList.count false = fuel → JInv S0 μ0 w0 N τ Γ (all.take bs.length) vs fss S listed a w →
   wpAnyH P .any all.toArray (Post S0 μ0 w0 N (np Q)) (SnapOK S) fuel listed a w := by
 have hnle : bs.length ≤ all.length := by
  rcases drawOk_tail hok with e | ⟨e, _⟩
  ·simp at e; omega
  ·simp at e; omega
 have hdl : (all.take bs.length).length = bs.length := by simp; omega
 have hap' : dstsApart (all.take bs.length) = true := by simpa using drawOk_apart hok
 have hget : ∀ {i : Nat}, i < bs.length → (all.take bs.length)[i]? = all[i]? := fun {i} hi => by rw [List.getElem?_take, if_pos hi]
 have hsnap : ∀ {S : Snap} {listed : Array Bool} {a : Act} {w : World}, JInv S0 μ0 w0 N τ Γ (all.take bs.length) vs fss S listed a w → SnapOK S w := by
  intro S listed a w hJ
  obtain ⟨μ, Γc, _, hwi, _⟩ := hJ.ex
  exact hwi.snap
 have hend : ∀ (S : Snap) (listed : Array Bool) (a : Act) (w : World), (∀ i, i < bs.length → listed.getD i false = true) → JInv S0 μ0 w0 N τ Γ (all.take bs.length) vs fss S listed a w → wpL P all.toArray (Post S0 μ0 w0 N (np Q)) (SnapOK S) (all.drop bs.length) a w := by
  intro S listed a w hdone hJ
  obtain ⟨μ, Γc, hfr, hwi, hlen, hf1, hf2, h1, h2⟩ := hJ.ex
  have hΓ : Γc = fillOb Γ fss.flatten := by
   apply List.ext_getElem?
   intro i
   by_cases hi : ∃ f ∈ fss.flatten, f.1 = i
   ·obtain ⟨f, hf, rfl⟩ := hi
    rw [fillOb_at hfl.1 hf]
    obtain ⟨fs, hfs', hff⟩ := List.mem_flatten.1 hf
    obtain ⟨j, hj, hje⟩ := List.mem_iff_getElem.1 hfs'
    exact hf1 j fs f (by rw [List.getElem?_eq_getElem hj, hje]) hff (hdone j (by omega))
   ·rw [fillOb_ne fun f hf e => hi ⟨f, hf, e⟩]
    exact hf2 i fun j fs f hj hf _ e => hi ⟨f, List.mem_flatten.2 ⟨fs, List.mem_of_getElem? hj, hf⟩, e⟩
  subst hΓ
  refine htl S0 μ0 w0 S S μ a w (SExt.refl S) ⟨hfr, hwi, ?_, hJ.tsz, hJ.dfr⟩
  intro t
  by_cases ht : ∃ (j : Nat) (o : Oper), (all.take bs.length)[j]? = some o ∧ o.dst = some t
  ·obtain ⟨j, o, ho, hd⟩ := ht
   have hj : j < bs.length := by have := lt_of_getElem? ho; omega
   obtain ⟨v, hv⟩ : ∃ v, vs[j]? = some v := getElem?_of_lt (by omega)
   rw [look_putAll_some _ _ _ j o v hap' ho hv hd]
   exact h1 j o v t ho hv (hdone j hj) hd
  ·rw [look_putAll_none _ _ _ fun j o ho hd => ht ⟨j, o, ho, hd⟩]
   exact h2 t fun j o ho _ hd => ht ⟨j, o, ho, hd⟩
 have hcntset : ∀ {listed : Array Bool} {i fuel : Nat}, i < listed.size → listed.getD i false = false → listed.toList.count false = fuel + 1 → (listed.setIfInBounds i true).toList.count false = fuel := by
  intro listed i fuel hil hiu hcnt
  have : listed.toList[i]? = some false := by
   simp [hil] at hiu
   simp [hil, hiu]
  have := count_set this
  simp only [Array.toList_setIfInBounds]
  omega
 intro fuel
 induction fuel with
 | zero =>
  intro S listed a w hinv hcnt hJ
  have hall : ∀ j, j < all.length → listed.getD j false = true := by
   intro j hj
   have hs : j < listed.toList.length := by have := hinv.size; simp at this ⊢; omega
   cases hb : listed.toList[j] with
   | true =>
    simp at hb
    have hj' : j < listed.size := by simpa using hs
    simp [hj', hb]
   | false =>
    have : false ∈ listed.toList := by rw [← hb]; exact List.getElem_mem hs
    have := List.count_pos_iff.2 this
    omega
  have hn : bs.length = all.length := by
   rcases Nat.lt_or_ge bs.length all.length with h | h
   ·have h1 := hinv.tail bs.length (Nat.le_refl _) (by simpa using h)
    have h2 := hall bs.length h
    rw [getD_both h1] at h2
    cases h2
   ·omega
  have hQ := hend S listed a w (fun i hi => hall i (by omega)) hJ
  have := wpAny_rest hok (all.drop bs.length) bs.length listed a w (Nat.le_refl _) (by simp; omega) (fun j hj => by simp [List.getElem?_drop]) hinv.size
   (fun j hj => by
    have hj' : j < all.length := by simpa using hj
    rw [hall j hj', decide_eq_true (by omega)]) (hsnap hJ) hQ
  have hl0 : (all.drop bs.length).length = 0 := by simp; omega
  rw [hl0] at this
  exact this
 | succ fuel ih =>
  intro S listed a w hinv hcnt hJ
  by_cases hlo : ∃ i, i < bs.length ∧ bs.getD i false = true ∧ i ∈ Region.ready .any all.toArray listed
  ·-- a loose operation that may come up is taken first
   obtain ⟨i, hin, hbi, hi⟩ := hlo
   obtain ⟨hun, o, ho, hall⟩ := mem_ready.1 hi
   have hoL : (all.take bs.length)[i]? = some o := by rw [hget hin]; simpa using ho
   obtain ⟨v, hv⟩ : ∃ v, vs[i]? = some v := getElem?_of_lt (by omega)
   obtain ⟨fs, hfsi⟩ : ∃ fs, fss[i]? = some fs := getElem?_of_lt (by omega)
   have hbi' : bs[i]? = some true := by
    simp [List.getD, List.getElem?_eq_getElem hin] at hbi
    rw [List.getElem?_eq_getElem hin, hbi]
   obtain ⟨μ, Γc, hfr, hwi, hlive, hdead, hclaim, hstep⟩ := hJ.step hfl hok hdst hinv hi hin hoL hv hfsi hvs
   have hil : i < listed.size := by have := hinv.size; simp at this; omega
   have hguard : ∀ (j : Nat) (want : Bool) (d : Nat), o.guard = some (j, want) → (all.toArray[j]?).bind (·.dst) = some d → V S μ (look (putAll τ ((all.take bs.length).take i) (vs.take i)) d) (a.tmps.getD d undef) :=
    fun j want d hg hd => hclaim d (guard_mem_looksAt hg hd)
   rcases hat i o v fs true hoL hv hfsi hbi' with ⟨_, _, h⟩ | ⟨hw, hL, hfe, _⟩ | ⟨_, _, _, h⟩
   ·cases h
   ·obtain ⟨u, hrun, hu⟩ := hL S μ a fun x hx => by
     cases x with
     | tmp t => exact hclaim t (tmp_mem_looksAt hx)
     | const c => simp only [AM.ev, Act.eval, V]
     | global g => simp only [AM.ev, Act.eval, V]
     | func f => exact ⟨#[], #[], rfl, by simp only [VL], by simp only [VL]⟩
    subst hfe
    refine wpAnyH_first ho (Region.noSelect_spec (drawOk_noSelect hok)) (fun c a' w' h => ?_) fuel listed a w (fun j oj hoj hne hju hno => ?_) hi (.inl ⟨wantT_spec hw hguard, hrun⟩) hwi.snap
     (ih S _ _ w (hinv.set hi hin) (hcntset hil (getD_both hun) hcnt) (hstep S μ u w (SExt.refl S) (MuLe.refl _ μ) hwi hu hfr))
    ·obtain ⟨_, _, _, _, h, _⟩ := h; exact h.elim
    ·rcases drawOk_loose hok hbi ho hoj hne with h | h | h
     ·obtain ⟨oj', hoj', e, he, hb, hon⟩ := Region.waitsFor_spec h
      rw [hoj] at hoj'; simp at hoj'; subst hoj'
      exact absurd hon (hno e he hb)
     ·obtain ⟨oi', hoi', e, he, hb, hon⟩ := Region.waitsFor_spec h
      rw [ho] at hoi'; simp at hoi'; subst hoi'
      have h1 := hall e he hb
      rw [hon, getD_both hju] at h1
      cases h1
     ·exact h
   ·cases h
  ·by_cases hdone : ∀ i, i < bs.length → listed.getD i false = true
   ·-- the head is done: the rest follows in its order
    have hQ := hend S listed a w hdone hJ
    have hlist : ∀ j, j < all.toArray.size → listed.getD j false = decide (j < bs.length) := by
     intro j hj
     by_cases e : j < bs.length
     ·rw [hdone j e, decide_eq_true e]
     ·rw [getD_both (hinv.tail j (by omega) hj), decide_eq_false e]
    have hcount : (all.drop bs.length).length = fuel + 1 := by
     rw [← hcnt]
     have hl : listed.toList = List.replicate bs.length true ++ List.replicate (all.length - bs.length) false := by
      apply List.ext_getElem?
      intro j
      have hsz := hinv.size
      simp at hsz
      rcases Nat.lt_or_ge j all.length with hj | hj
      ·have h1 := hlist j (by simpa using hj)
       have hj' : j < listed.size := by omega
       simp [hj'] at h1
       simp only [Array.getElem?_toList, Array.getElem?_eq_getElem hj', h1]
       by_cases e : j < bs.length
       ·rw [List.getElem?_append_left (by simpa using e), List.getElem?_replicate, if_pos e, decide_eq_true e]
       ·rw [List.getElem?_append_right (by simp; omega), List.getElem?_replicate, if_pos (by simp; omega), decide_eq_false e]
      ·rw [List.getElem?_eq_none (by simp; omega), List.getElem?_eq_none (by simp; omega)]
     rw [hl]
     simp [List.count_append, List.count_replicate]
    have := wpAny_rest hok (all.drop bs.length) bs.length listed a w (Nat.le_refl _) (by simp; omega) (fun j hj => by simp [List.getElem?_drop]) hinv.size hlist (hsnap hJ) hQ
    rwa [hcount] at this
   ·-- some tame operation that is not loose is still to come: none of the rest is ready
    have hmin : ∃ i, i < bs.length ∧ listed.getD i false = false ∧ ∀ j, j < i → listed.getD j false = true := by
     have hex : ∃ i, i < bs.length ∧ listed.getD i false = false := by
      apply Classical.byContradiction
      intro hno
      refine hdone fun i hi => ?_
      cases hb : listed.getD i false with
      | true => rfl
      | false => exact absurd ⟨i, hi, hb⟩ hno
     obtain ⟨i0, h0, h1⟩ := hex
     induction i0 using Nat.strongRecOn with
     | _ i0 ihi =>
      by_cases h : ∀ j, j < i0 → listed.getD j false = true
      ·exact ⟨i0, h0, h1, h⟩
      ·have : ∃ j, j < i0 ∧ listed.getD j false = false := by
        apply Classical.byContradiction
        intro hno
        refine h fun j hj => ?_
        cases hb : listed.getD j false with
        | true => rfl
        | false => exact absurd ⟨j, hj, hb⟩ hno
       obtain ⟨j, hj, hb⟩ := this
       exact ihi j hj (by omega) hb
    obtain ⟨i0, h0, hb0, hlow⟩ := hmin
    have hi0 : i0 ∈ Region.ready .any all.toArray listed := by
     have hio : i0 < all.length := by omega
     refine mem_ready.2 ⟨getD_in (by have := hinv.size; simp at this; omega) hb0, all[i0], by simp [hio], fun e he hbd => hlow _ ?_⟩
     exact drawOk_edges hok (i := i0) (by simp [hio]) e he hbd
    have hnl0 : bs.getD i0 false = false := by
     cases hb : bs.getD i0 false with
     | false => rfl
     | true => exact absurd ⟨i0, h0, hb, hi0⟩ hlo
    have hready : ∀ i, i ∈ Region.ready .any all.toArray listed → i < bs.length := by
     intro i hi
     obtain ⟨_, o, ho, _⟩ := mem_ready.1 hi
     have hi' := (Array.getElem?_eq_some_iff.1 ho).1
     rcases drawOk_tail hok with e | ⟨e, hc, hs⟩
     ·omega
     ·rcases Nat.lt_or_ge i bs.length with h | h
      ·exact h
      ·exfalso
       have hsz : i0 < listed.size := by have := hinv.size; simp at this e; omega
       exact tail_waits2 hc hs e hinv (bs.length - i0) i0 rfl h0 hnl0 (getD_in hsz hb0) i h hi
    refine ⟨fun hnil => ?_, fun i hi => ?_⟩
    ·rw [hnil] at hi0; cases hi0
    ·have hin := hready i hi
     obtain ⟨hun, o, ho, hall⟩ := mem_ready.1 hi
     have hoL : (all.take bs.length)[i]? = some o := by rw [hget hin]; simpa using ho
     obtain ⟨v, hv⟩ : ∃ v, vs[i]? = some v := getElem?_of_lt (by omega)
     obtain ⟨fs, hfsi⟩ : ∃ fs, fss[i]? = some fs := getElem?_of_lt (by omega)
     obtain ⟨b, hbi⟩ : ∃ b, bs[i]? = some b := getElem?_of_lt hin
     obtain ⟨μ, Γc, hfr, hwi, hlive, hdead, hclaim, hstep⟩ := hJ.step hfl hok hdst hinv hi hin hoL hv hfsi hvs
     have hil : i < listed.size := by have := hinv.size; simp at this; omega
     have hguard : ∀ (j : Nat) (want : Bool) (d : Nat), o.guard = some (j, want) → (all.toArray[j]?).bind (·.dst) = some d → V S μ (look (putAll τ ((all.take bs.length).take i) (vs.take i)) d) (a.tmps.getD d undef) :=
      fun j want d hg hd => hclaim d (guard_mem_looksAt hg hd)
     have hops : ∀ x ∈ o.op.operands, V S μ (ev (putAll τ ((all.take bs.length).take i) (vs.take i)) x) (a.eval x) := fun x hx => by
      cases x with
      | tmp t => exact hclaim t (tmp_mem_looksAt hx)
      | const c => simp only [AM.ev, Act.eval, V]
      | global g => simp only [AM.ev, Act.eval, V]
      | func f => exact ⟨#[], #[], rfl, by simp only [VL], by simp only [VL]⟩
     have hgo : ∀ (S' : Snap) (μ' : List Mu) (u : Value) (w' : World), SExt S S' → MuLe w.heap.size μ μ' → WI S' μ' (fillOb Γc fs) w' → V S' μ' v u → FrI S0 μ0 w0 S' μ' w' →
       SnapOK S w' ∧ wpAnyH P .any all.toArray (Post S0 μ0 w0 N (np Q)) (SnapOK S) fuel (listed.setIfInBounds i true) (a.put o.dst u) w' := by
      intro S' μ' u w' hS hM hwi' hvu hfr'
      exact ⟨SnapOK.mono hS hwi'.snap, wpAnyH_mono (fun _ h => SnapOK.mono hS h) _ _ _ _
       (ih S' _ _ w' (hinv.set hi hin) (hcntset hil (getD_both hun) hcnt) (hstep S' μ' u w' hS hM hwi' hvu hfr'))⟩
     unfold wpOp
     rw [ho]
     dsimp only
     rcases hat i o v fs b hoL hv hfsi hbi with ⟨hw, ht, _⟩ | ⟨hw, hL, hfe, _⟩ | ⟨hw, hx, hfe, _⟩
     ·rw [if_pos (wantT_spec hw hguard)]
      exact .inl (ht S μ Γc a w hlive hdead hwi hops _ _ fun S' μ' u w' hS hF hM hwi' hvu hg => hgo S' μ' u w' hS hM.le hwi' hvu (hfr.grow hS hF hM hg))
     ·rw [if_pos (wantT_spec hw hguard)]
      subst hfe
      exact .inl (hL.top (Γ := Γ) S μ Γc a w hlive hdead hwi hops _ _ fun S' μ' u w' hS hF hM hwi' hvu hg => hgo S' μ' u w' hS hM.le hwi' hvu (hfr.grow hS hF hM hg))
     ·rw [if_neg (by rw [wantT_spec hw hguard]; simp)]
      subst hfe
      exact hgo S μ undef w (SExt.refl S) (MuLe.refl _ μ) hwi (by rw [hx]; simp only [V]) hfr
theorem RunC.draw {P : Program} {N id : Nat} {all : List Oper} {τ τ' : List (Nat × AV)} {Γ : List Ob} {fss : List (List (Nat × List AV))} {bs : List Bool} {Q : PQ} (n : Nat) (hm : P.follows .mixedOrders = true)
  (ht : TRun P all.toArray Γ (all.take n) τ τ' fss bs) (hn : bs.length = n) (hok : drawOk all.toArray bs = true) (hdst : (all.take n).all (dstLt N) = true) (hfl : fillsOk Γ fss.flatten) (h : ROps P N all.toArray (all.drop n) τ' (fillOb Γ fss.flatten) (np Q)) : RunC P N (.region id all.toArray true) τ Γ Q := by
 subst hn
 intro S0 μ0 w0 S μ a w hi
 obtain ⟨hfs, _, vs, hvs, rfl, hat⟩ := ht.chain
 have hg : Grow w { w with drawn := w.drawn + 1 } := ⟨Nat.le_refl _, fun _ _ => rfl, rfl, rfl, rfl⟩
 have key := wpAny_tame (S0 := S0) (μ0 := μ0) (w0 := w0) hfl hfs hok hdst hvs hat h all.toArray.size S (Array.replicate all.toArray.size false) a { w with drawn := w.drawn + 1 } ⟨by simp, fun j oj _ hl => ?_, fun t ht htl => ?_⟩ (by simp)
  ⟨⟨μ, Γ, hi.fr.grow (fs := []) (SExt.refl S) (SFresh.refl _ S) (MuStep.refl _ _ _) hg, ⟨hi.wi.snap, hi.wi.len, hi.wi.ver, hi.wi.own, hi.wi.sep⟩, rfl, fun j fs f _ _ hl => ?_, fun _ _ => rfl, ?_, fun t _ => hi.ci t⟩, hi.tsz, hi.dfr⟩
 ·refine wp_mono (wp_region_held hm key) ?_
  rintro e a' w' ⟨S', μ', τ', Γ', hq, hi'⟩
  cases e <;> first | exact hq.elim | exact ⟨S', μ', τ', Γ', hq, hi'⟩
 ·rw [getD_replicate_false] at hl; cases hl
 ·simp at htl; simp [htl]
 ·rw [getD_replicate_false] at hl; cases hl
 ·intro j o v d _ _ hl
  rw [getD_replicate_false] at hl; cases hl
end Go.AM

namespace Go.AM
abbrev AV.i64 (n : Int) : AV := .x (.int .i64 n)
abbrev AV.b (t : Bool) : AV := .x (.bool t)
abbrev AV.str (s : ByteArray) : AV := .x (.string s)
abbrev AV.f32 (c : F) : AV := .f .f32 c
abbrev AV.f64 (c : F) : AV := .f .f64 c
abbrev AV.nilsl : AV := .x (.slice none 0 0)
section
variable {P : Program} {o : Oper} {τ : List (Nat × AV)}
theorem opnd {S : Snap} {μ : List Mu} {a : Act} (h : ∀ x ∈ o.op.operands, V S μ (ev τ x) (a.eval x)) {x : Operand} (hx : x ∈ o.op.operands) {r : AV} (he : ev τ x = r) : V S μ r (a.eval x) := he ▸ h x hx
theorem cell_of_snap {S : Snap} {w : World} (hw : SnapOK S w) {b : Nat} {cs : Array Value} (hb : S b = some cs) (i : Nat) : w.cell? ⟨b, i, none⟩ = cs[i]? := by
 obtain ⟨T, m, h⟩ := hw b cs hb
 simp [World.cell?, h]
theorem LOp.move {x : Operand} {r : AV} (ho : o.op = .move x) (hx : ev τ x = r) : LOp P o τ r := by
 intro S μ a h
 refine ⟨a.eval x, fun w _ => by simp [execOp, ho], opnd h (by simp [ho, Op.operands]) hx⟩
theorem LOp.assign {x : Operand} {r : AV} (ho : o.op = .assign x) (hx : ev τ x = r) : LOp P o τ r := by
 intro S μ a h
 refine ⟨a.eval x, fun w _ => by simp [execOp, ho], opnd h (by simp [ho, Op.operands]) hx⟩
theorem LOp.pick_true {c x y : Operand} {r : AV} (ho : o.op = .pick c x y) (hc : ev τ c = .b true) (hx : ev τ x = r) : LOp P o τ r := by
 intro S μ a h
 have h1 := opnd h (x := c) (by simp [ho, Op.operands]) hc
 simp only [V] at h1
 refine ⟨a.eval x, fun w _ => by simp [execOp, ho, h1, asBool], opnd h (by simp [ho, Op.operands]) hx⟩
theorem LOp.pick_false {c x y : Operand} {r : AV} (ho : o.op = .pick c x y) (hc : ev τ c = .b false) (hx : ev τ y = r) : LOp P o τ r := by
 intro S μ a h
 have h1 := opnd h (x := c) (by simp [ho, Op.operands]) hc
 simp only [V] at h1
 refine ⟨a.eval y, fun w _ => by simp [execOp, ho, h1, asBool], opnd h (by simp [ho, Op.operands]) hx⟩
theorem LOp.not {t : TypeId} {x : Operand} {b : Bool} (ho : o.op = .unOp .not t x) (hx : ev τ x = .b b) : LOp P o τ (.b (!b)) := by
 intro S μ a h
 have h1 := opnd h (x := x) (by simp [ho, Op.operands]) hx
 simp only [V] at h1
 refine ⟨.bool !b, fun w _ => by simp [execOp, ho, h1, Op.unary], by simp only [V]⟩
theorem LOp.bin {op : BinOp} {t ty : TypeId} {x y : Operand} {u v r : Value} (ho : o.op = .binOp op t x y ty) (hx : ev τ x = .x u) (hy : ev τ y = .x v) (hr : ∀ w, (do eqGuard op t x y u v; binOp op t u v : Sem Value).run P w = .ok r w) : LOp P o τ (.x r) := by
 intro S μ a h
 have h1 := opnd h (x := x) (by simp [ho, Op.operands]) hx
 have h2 := opnd h (x := y) (by simp [ho, Op.operands]) hy
 simp only [V] at h1 h2
 refine ⟨r, fun w _ => ?_, by simp only [V]⟩
 have := hr w
 simp only [execOp, ho, h1, h2]
 simp only [Sem.run_bind] at this ⊢
 rw [this]
 rfl
theorem LOp.add {t ty : TypeId} {x y : Operand} {k : IntKind} {m n : Int} (ho : o.op = .binOp .add t x y ty) (hx : ev τ x = .x (.int k m)) (hy : ev τ y = .x (.int k n)) : LOp P o τ (.x (.int k (k.wrap (m + n)))) :=
 LOp.bin ho hx hy fun w => by simp [eqGuard, binOp, Op.intArith]
theorem LOp.sub {t ty : TypeId} {x y : Operand} {k : IntKind} {m n : Int} (ho : o.op = .binOp .sub t x y ty) (hx : ev τ x = .x (.int k m)) (hy : ev τ y = .x (.int k n)) : LOp P o τ (.x (.int k (k.wrap (m - n)))) :=
 LOp.bin ho hx hy fun w => by simp [eqGuard, binOp, Op.intArith]
theorem LOp.mul {t ty : TypeId} {x y : Operand} {k : IntKind} {m n : Int} (ho : o.op = .binOp .mul t x y ty) (hx : ev τ x = .x (.int k m)) (hy : ev τ y = .x (.int k n)) : LOp P o τ (.x (.int k (k.wrap (m * n)))) :=
 LOp.bin ho hx hy fun w => by simp [eqGuard, binOp, Op.intArith]
theorem LOp.rem {t ty : TypeId} {x y : Operand} {k : IntKind} {m n : Int} (ho : o.op = .binOp .rem t x y ty) (hx : ev τ x = .x (.int k m)) (hy : ev τ y = .x (.int k n)) (h0 : n ≠ 0) : LOp P o τ (.x (.int k (m.tmod n))) :=
 LOp.bin ho hx hy fun w => by simp [eqGuard, binOp, Op.intDiv, h0]
theorem LOp.lss {t ty : TypeId} {x y : Operand} {k : IntKind} {m n : Int} (ho : o.op = .binOp .lss t x y ty) (hx : ev τ x = .x (.int k m)) (hy : ev τ y = .x (.int k n)) : LOp P o τ (.b (decide (m < n))) :=
 LOp.bin ho hx hy fun w => by simp [eqGuard, binOp, Op.intCmp]
theorem LOp.leq {t ty : TypeId} {x y : Operand} {k : IntKind} {m n : Int} (ho : o.op = .binOp .leq t x y ty) (hx : ev τ x = .x (.int k m)) (hy : ev τ y = .x (.int k n)) : LOp P o τ (.b (decide (m ≤ n))) :=
 LOp.bin ho hx hy fun w => by simp [eqGuard, binOp, Op.intCmp]
theorem LOp.gtr {t ty : TypeId} {x y : Operand} {k : IntKind} {m n : Int} (ho : o.op = .binOp .gtr t x y ty) (hx : ev τ x = .x (.int k m)) (hy : ev τ y = .x (.int k n)) : LOp P o τ (.b (decide (n < m))) :=
 LOp.bin ho hx hy fun w => by simp [eqGuard, binOp, Op.intCmp]
theorem LOp.geq {t ty : TypeId} {x y : Operand} {k : IntKind} {m n : Int} (ho : o.op = .binOp .geq t x y ty) (hx : ev τ x = .x (.int k m)) (hy : ev τ y = .x (.int k n)) : LOp P o τ (.b (decide (n ≤ m))) :=
 LOp.bin ho hx hy fun w => by simp [eqGuard, binOp, Op.intCmp]
theorem LOp.eql {t ty : TypeId} {x y : Operand} {k : IntKind} {m n : Int} (ho : o.op = .binOp .eql t x y ty) (hx : ev τ x = .x (.int k m)) (hy : ev τ y = .x (.int k n)) : LOp P o τ (.b (decide (m = n))) :=
 LOp.bin ho hx hy fun w => by simp [eqGuard, binOp, Op.intCmp]; rfl
theorem LOp.neq {t ty : TypeId} {x y : Operand} {k : IntKind} {m n : Int} (ho : o.op = .binOp .neq t x y ty) (hx : ev τ x = .x (.int k m)) (hy : ev τ y = .x (.int k n)) : LOp P o τ (.b (!decide (m = n))) :=
 LOp.bin ho hx hy fun w => by simp [eqGuard, binOp, Op.intCmp, bne]; rfl
theorem LOp.i2i {src dst : TypeId} {x : Operand} {k k' : IntKind} {n : Int} (hs : ∃ d, P.underlying src = some d) (hd : P.underlying dst = some (.int k)) (ho : o.op = .convert src dst x) (hx : ev τ x = .x (.int k' n)) : LOp P o τ (.x (.int k (k.wrap n))) := by
 intro S μ a h
 obtain ⟨d, hs⟩ := hs
 have h1 := opnd h (x := x) (by simp [ho, Op.operands]) hx
 simp only [V] at h1
 refine ⟨.int k (k.wrap n), fun w _ => ?_, by simp only [V]⟩
 cases d <;> simp [execOp, ho, h1, convert, run_underlying hs, run_underlying hd, Conv.intToInt]
theorem LOp.extract {x : Operand} {l : List AV} {i : Nat} {r : AV} (ho : o.op = .extract x i) (hx : ev τ x = .tup l) (hi : l[i]? = some r) : LOp P o τ r := by
 intro S μ a h
 have h1 := opnd h (x := x) (by simp [ho, Op.operands]) hx
 simp only [V] at h1
 obtain ⟨cs, h1, h2⟩ := h1
 obtain ⟨v, hv, hr⟩ := h2.get hi
 have hv' : cs[i]? = some v := by simpa using hv
 refine ⟨v, fun w _ => by simp [execOp, ho, h1, Instr.extract, hv'], hr⟩
theorem LOp.nilCheck_ptr {x : Operand} {l : List AV} (ho : o.op = .nilCheck x) (hx : ev τ x = .ptr l) : LOp P o τ (.ptr l) := by
 intro S μ a h
 have h1 := opnd h (x := x) (by simp [ho, Op.operands]) hx
 have h2 := h1
 simp only [V] at h2
 obtain ⟨b, off, cs, h2, _⟩ := h2
 exact ⟨a.eval x, fun w _ => by simp [execOp, ho, h2], h1⟩
theorem LOp.nilCheck_optr {x : Operand} {p ver off : Nat} (ho : o.op = .nilCheck x) (hx : ev τ x = .optr p ver off) : LOp P o τ (.optr p ver off) := by
 intro S μ a h
 have h1 := opnd h (x := x) (by simp [ho, Op.operands]) hx
 have h2 := h1
 simp only [V] at h2
 obtain ⟨m, ad, _, _, h2, _⟩ := h2
 exact ⟨a.eval x, fun w _ => by simp [execOp, ho, h2], h1⟩
theorem Addr.add_mk (b off n : Nat) : Addr.add ⟨b, off, none⟩ n = ⟨b, off + n, none⟩ := by
 unfold Addr.add
 split
 ·rename_i h; subst h; rfl
 ·rfl
theorem LOp.fieldAddr_ptr {s : TypeId} {x : Operand} {f : Nat} {fs : Array Field} {fd : Field} {n : Nat} {l : List AV} (hs : ∀ w, (underlying s).run P w = .ok (.struct fs) w) (hf : fs[f]? = some fd) (hn : ∀ w, (sizeOf fd.type).run P w = .ok (n + 1) w)
  (ho : o.op = .fieldAddr s x f) (hx : ev τ x = .ptr l) : LOp P o τ (.ptr (l.drop fd.offset)) := by
 intro S μ a h
 have h1 := opnd h (x := x) (by simp [ho, Op.operands]) hx
 simp only [V] at h1
 obtain ⟨b, off, cs, h1, h2, h3⟩ := h1
 refine ⟨.pointer (some ⟨b, off + fd.offset, none⟩), fun w _ => ?_, ?_⟩
 ·simp [execOp, ho, h1, Instr.fieldAt, hs, hf, Instr.sureAddr, fieldPlace, hn, Addr.add_mk]
 ·simp only [V]
  exact ⟨b, _, cs, rfl, h2, by rw [← List.drop_drop]; exact h3.drop _⟩
theorem LOp.fieldAddr_optr {s : TypeId} {x : Operand} {f : Nat} {fs : Array Field} {fd : Field} {n p ver off : Nat} (hs : ∀ w, (underlying s).run P w = .ok (.struct fs) w) (hf : fs[f]? = some fd) (hn : ∀ w, (sizeOf fd.type).run P w = .ok (n + 1) w)
  (ho : o.op = .fieldAddr s x f) (hx : ev τ x = .optr p ver off) : LOp P o τ (.optr p ver (off + fd.offset)) := by
 intro S μ a h
 have h1 := opnd h (x := x) (by simp [ho, Op.operands]) hx
 simp only [V] at h1
 obtain ⟨m, ad, h1, h2, h3, h4⟩ := h1
 refine ⟨.pointer (some (ad.add fd.offset)), fun w _ => ?_, ?_⟩
 ·simp [execOp, ho, h3, Instr.fieldAt, hs, hf, Instr.sureAddr, fieldPlace, hn]
 ·simp only [V]
  refine ⟨m, _, h1, h2, rfl, fun e => ?_⟩
  obtain ⟨b, hb, rfl, hmp⟩ := h4 e
  exact ⟨b, hb, Addr.add_mk _ _ _, hmp⟩
theorem LOp.load1 {t : TypeId} {x : Operand} {r : AV} {l : List AV} (hg : ∀ w, (isAgg t).run P w = .ok false w) (ho : o.op = .load t x) (hx : ev τ x = .ptr (r :: l)) : LOp P o τ r := by
 intro S μ a h
 have h1 := opnd h (x := x) (by simp [ho, Op.operands]) hx
 simp only [V] at h1
 obtain ⟨b, off, cs, h1, h2, h3⟩ := h1
 obtain ⟨v, hv, hr⟩ := h3.get (i := 0) rfl
 have hv' : cs[off]? = some v := by simpa using hv
 refine ⟨v, fun w hw => ?_, hr⟩
 have hc := cell_of_snap hw h2 off
 rw [hv'] at hc
 simp [execOp, ho, h1, Instr.loadAt, Instr.sureAddr, loadVar, hg, hc]
theorem run_loadCells_snap {P : Program} {w : World} {b off : Nat} {vs : List Value} (h : ∀ i v, vs[i]? = some v → w.cell? ⟨b, off + i, none⟩ = some v) : (loadCells ⟨b, off, none⟩ vs.length).run P w = .ok vs.toArray w :=
 run_loadCells_list (P := P) (w := w) ⟨b, off, none⟩ vs (fun j v hj => by rw [Addr.add_mk]; exact h j v hj)
theorem LOp.loadAgg {t : TypeId} {x : Operand} {n : Nat} {l r : List AV} (hg : ∀ w, (isAgg t).run P w = .ok true w) (hn : ∀ w, (sizeOf t).run P w = .ok n w) (ho : o.op = .load t x) (hx : ev τ x = .ptr l) (hr : l.take n = r) (hl : r.length = n) : LOp P o τ (.agg r) := by
 intro S μ a h
 have h1 := opnd h (x := x) (by simp [ho, Op.operands]) hx
 simp only [V] at h1
 obtain ⟨b, off, cs, h1, h2, h3⟩ := h1
 have h4 := h3.take n
 rw [hr] at h4
 have h5 := h4.vl_take
 rw [hl] at h5
 refine ⟨.agg ((cs.toList.drop off).take n).toArray, fun w hw => ?_, by simp only [V]; exact ⟨_, rfl, by simpa using h5⟩⟩
 have hlen : ((cs.toList.drop off).take n).length = n := by rw [h5.length, hl]
 have key := run_loadCells_snap (P := P) (w := w) (b := b) (off := off) (vs := (cs.toList.drop off).take n) (fun i v hi => by
  rw [cell_of_snap hw h2]
  have hlt := lt_of_getElem? hi
  rw [hlen] at hlt
  rw [List.getElem?_take, if_pos hlt, List.getElem?_drop] at hi
  simpa using hi)
 rw [hlen] at key
 simp [execOp, ho, h1, Instr.loadAt, Instr.sureAddr, loadVar, hg, hn, key]
theorem LOp.indexAddr_sl {t e : TypeId} {x ix : Operand} {n : Nat} {l r : List AV} {k : IntKind} {i : Int} (ht : ∀ w, (underlying t).run P w = .ok (.slice e) w) (he : ∀ w, (sizeOf e).run P w = .ok 1 w)
  (ho : o.op = .indexAddr t x ix) (hx : ev τ x = .sl n l) (hi : ev τ ix = .x (.int k i)) (h0 : 0 ≤ i) (h1 : i < n) (hl : l ≠ []) (hr : l.drop i.toNat = r) : LOp P o τ (.ptr r) := by
 intro S μ a h
 have k1 := opnd h (x := x) (by simp [ho, Op.operands]) hx
 have k2 := opnd h (x := ix) (by simp [ho, Op.operands]) hi
 simp only [V] at k1 k2
 obtain ⟨ad, cap, k1, _, k3⟩ := k1
 rcases k3 with k3 | ⟨b, off, cs, rfl, k4, k5⟩
 ·exact absurd k3 hl
 ·refine ⟨.pointer (some ⟨b, off + i.toNat, none⟩), fun w _ => ?_, ?_⟩
  ·simp [execOp, ho, k1, k2, Instr.indexAt, asIntOf, ht, he, h0, h1, Addr.add_mk]
  ·simp only [V]
   exact ⟨b, _, cs, rfl, k4, by rw [← List.drop_drop, ← hr]; exact k5.drop _⟩
theorem LOp.indexAddr_oref {t e : TypeId} {x ix : Operand} {p ver off n : Nat} {k : IntKind} {i : Int} (ht : ∀ w, (underlying t).run P w = .ok (.slice e) w) (he : ∀ w, (sizeOf e).run P w = .ok (off + 1) w)
  (ho : o.op = .indexAddr t x ix) (hx : ev τ x = .oref p ver off n) (hi : ev τ ix = .x (.int k i)) (h0 : 0 ≤ i) (h1 : i < n) (Γ : List Ob) {l : List AV} (hΓ : Γ[p]? = some ⟨ver, some l⟩) : TOp P o τ Γ (.optr p ver (i.toNat * (off + 1))) [] := by
 intro S μ Γ2 a w hL _ hw h next Q hn
 have k1 := opnd h (x := x) (by simp [ho, Op.operands]) hx
 have k2 := opnd h (x := ix) (by simp [ho, Op.operands]) hi
 simp only [V] at k1 k2
 obtain ⟨m, ad, cap, k3, k4, k5, k6⟩ := k1
 have hv := hw.ver p _ m (hL.2 p ver l hΓ) k3
 have k7 := k6 hv
 cases hb : m.blk with
 | none =>
  rw [hb] at k7
  simp only at k7
  omega
 | some b =>
  rw [hb] at k7
  simp only at k7
  obtain ⟨rfl, k8, k9, hmp⟩ := k7
  unfold Oper.wp
  have : (execOp a.eval o).run P w = .ok (.value (.pointer (some ⟨b, i.toNat * (off + 1), none⟩))) w := by
   simp [execOp, ho, k5, k2, Instr.indexAt, asIntOf, ht, he, h0, h1, Addr.add_mk]
  rw [this]
  refine hn S μ _ w (SExt.refl S) (SFresh.refl _ S) (MuStep.refl _ _ _) hw ?_ (Grow.refl w)
  simp only [V]
  exact ⟨m, _, k3, k4, rfl, fun _ => ⟨b, hb, rfl, hmp⟩⟩
theorem LOp.len_sl {t e : TypeId} {x : Operand} {n : Nat} {l : List AV} (ht : ∀ w, (underlying t).run P w = .ok (.slice e) w) (ho : o.op = .call { callee := .builtin .len, args := #[x], argTypes := #[t] }) (hx : ev τ x = .sl n l) : LOp P o τ (.i64 n) := by
 intro S μ a h
 have k1 := opnd h (x := x) (by simp [ho, Op.operands, Call.operands]) hx
 simp only [V] at k1
 obtain ⟨ad, cap, k1, _⟩ := k1
 refine ⟨.int .i64 n, fun w _ => by simp [execOp, ho, resolve, invoke, builtin, Builtin.len_, ht, k1, goInt], by simp only [V]⟩
theorem LOp.len_oref {t : TypeId} {e : TypeId} {x : Operand} {p ver off n : Nat} (ht : ∀ w, (underlying t).run P w = .ok (.slice e) w) (ho : o.op = .call { callee := .builtin .len, args := #[x], argTypes := #[t] }) (hx : ev τ x = .oref p ver off n) : LOp P o τ (.i64 n) := by
 intro S μ a h
 have k1 := opnd h (x := x) (by simp [ho, Op.operands, Call.operands]) hx
 simp only [V] at k1
 obtain ⟨m, ad, cap, _, _, k1, _⟩ := k1
 refine ⟨.int .i64 n, fun w _ => by simp [execOp, ho, resolve, invoke, builtin, Builtin.len_, ht, k1, goInt], by simp only [V]⟩
theorem LOp.makeFunc {f : FuncId} {cap : Array Operand} {q : List AV} (ho : o.op = .makeFunc (.func f) #[] cap) (hq : cap.toList.map (ev τ) = q) : LOp P o τ (.fn (.func f) [] q) := by
 intro S μ a h
 refine ⟨.func (.func f) #[] (cap.map a.eval), fun w _ => by simp [execOp, ho, Instr.makeFunc], ?_⟩
 simp only [V]
 refine ⟨#[], cap.map a.eval, rfl, by simp only [VL], ?_⟩
 subst hq
 have key : ∀ l : List Operand, (∀ x ∈ l, V S μ (ev τ x) (a.eval x)) → VL S μ (l.map (ev τ)) (l.map a.eval) := by
  intro l
  induction l with
  | nil => intro _; simp only [List.map_nil, VL]
  | cons x l ih => intro hl; simp only [List.map_cons, VL]; exact ⟨hl x (by simp), ih fun y hy => hl y (by simp [hy])⟩
 rw [Array.toList_map]
 exact key cap.toList fun x hx => h x (by simpa [ho, Op.operands] using hx)
end
end Go.AM

namespace Go.AM
section
variable {P : Program} {o : Oper} {τ : List (Nat × AV)} {Γ : List Ob}
theorem WI.grow {S : Snap} {μ : List Mu} {Γ : List Ob} {w w' : World} (h : WI S μ Γ w) (hg : Grow w w') : WI S μ Γ w' := by
 refine ⟨fun b cs hb => ?_, h.len, h.ver, fun p ver l m hp hm => ?_, h.sep⟩
 ·obtain ⟨T, m, e⟩ := h.snap b cs hb
  exact ⟨T, m, (hg.block b (Array.getElem?_eq_some_iff.1 e).1).trans e⟩
 ·have := h.own p ver l m hp hm
  unfold OwnAt at *
  split at this
  ·exact this
  ·obtain ⟨h1, cs, T, h2, h3⟩ := this
   exact ⟨h1, cs, T, (hg.block _ (Array.getElem?_eq_some_iff.1 h2).1).trans h2, h3⟩
def more (w : World) (cs : Array Value) (T : TypeId) : World := w.alloc (.cells cs T)
theorem more_grow (w : World) (cs : Array Value) (T : TypeId) : Grow w (more w cs T) :=
 ⟨by simp [more], fun b hb => heap_alloc_old w _ hb, rfl, rfl, rfl⟩
theorem more_new (w : World) (cs : Array Value) (T : TypeId) : (more w cs T).heap[w.heap.size]? = some (.cells cs T (0, 0)) := heap_alloc_new w _
def snapAdd (S : Snap) (b : Nat) (cs : Array Value) : Snap := ⟨fun x => match S x with
 | some c => some c
 | none => if x = b then some cs else none, S.2.mono fun b c hb => by simp only [hb]⟩
theorem snap_lt {S : Snap} {w : World} (h : SnapOK S w) {b : Nat} {cs : Array Value} (hb : S b = some cs) : b < w.heap.size := by
 obtain ⟨T, m, e⟩ := h b cs hb
 exact (Array.getElem?_eq_some_iff.1 e).1
theorem snapAdd_ext {S : Snap} {w : World} (h : SnapOK S w) (cs : Array Value) : SExt S (snapAdd S w.heap.size cs) := by
 intro b c hb
 simp only [snapAdd, hb]
theorem snapAdd_fresh {S : Snap} {w : World} (cs : Array Value) : SFresh w.heap.size S (snapAdd S w.heap.size cs) := by
 intro b c hb
 simp only [snapAdd] at hb
 split at hb
 ·rename_i c' e; rw [e]; exact .inl hb
 ·split at hb
  ·rename_i e; exact .inr (by omega)
  ·cases hb
theorem WI.settle_new {S : Snap} {μ : List Mu} {Γ : List Ob} {w : World} (h : WI S μ Γ w) (cs : Array Value) (T : TypeId) : WI (snapAdd S w.heap.size cs) μ Γ (more w cs T) := by
 have hg := h.grow (more_grow w cs T)
 refine ⟨fun b c hb => ?_, hg.len, hg.ver, fun p ver l m hp hm => ?_, hg.sep⟩
 ·simp only [snapAdd] at hb
  split at hb
  ·rename_i c' e; exact hg.snap b c (by rw [e]; exact hb)
  ·split at hb
   ·rename_i e; subst e; simp at hb; subst hb; exact ⟨T, _, more_new w cs T⟩
   ·cases hb
 ·have h1 := hg.own p ver l m hp hm
  have h0 := h.own p ver l m hp hm
  unfold OwnAt at *
  split at h1
  ·exact h1
  ·rename_i b hb
   rw [hb] at h0
   obtain ⟨_, c0, T0, e0, _⟩ := h0
   have hlt := (Array.getElem?_eq_some_iff.1 e0).1
   obtain ⟨k1, c, T', k2, k3, k4⟩ := h1
   refine ⟨?_, c, T', k2, k3, VP.mono (snapAdd_ext h.snap cs) (MuLe.refl 0 μ) l _ k4⟩
   simp only [snapAdd, k1]
   rw [if_neg (by omega)]
theorem MuLe.set {B : Nat} {μ : List Mu} {p : Nat} {m m' : Mu} (hm : μ[p]? = some m) (hv : m.ver < m'.ver) (hb : ∀ b, m'.blk = some b → m.blk = some b ∨ B ≤ b) : MuLe B μ (μ.set p m') := by
 intro i mi hi
 by_cases e : p = i
 ·subst e
  rw [hm] at hi; simp at hi; subst hi
  have := lt_of_getElem? hm
  exact ⟨m', by simp [this], by omega, fun e => by omega, hb⟩
 ·exact ⟨mi, by rw [List.getElem?_set_ne e]; exact hi, Nat.le_refl _, fun _ => rfl, fun _ h => .inl h⟩
theorem WI.fill_any {S : Snap} {μ : List Mu} {Γ : List Ob} {w w' : World} (h : WI S μ Γ w) (hg : Grow w w') {p : Nat} {g : Ob} {l : List AV} {mn : Mu} {cs : Array Value} (hp : Γ[p]? = some g) (hvn : mn.ver = g.ver + 1)
  (hblk : ∀ b, mn.blk = some b → w.heap.size ≤ b ∧ ∃ o, w'.heap[b]? = some o ∧ Img o mn cs) (hnil : mn.blk = none → l = []) (hl : VP S μ l cs.toList) :
  WI S (μ.set p mn) (Γ.set p ⟨g.ver + 1, some l⟩) w' ∧ MuStep w.heap.size [(p, l)] μ (μ.set p mn) := by
 obtain ⟨m, hm⟩ : ∃ m, μ[p]? = some m := getElem?_of_lt (by rw [h.len]; exact lt_of_getElem? hp)
 have hv := h.ver p g m hp hm
 have hM : MuLe w.heap.size μ (μ.set p mn) := MuLe.set hm (by omega) fun b hb => .inr (hblk b hb).1
 have hpl := lt_of_getElem? hp
 have hml := lt_of_getElem? hm
 have h' := h.grow hg
 have hold : ∀ {i : Nat} {g1 : Ob} {m1 : Mu} {b : Nat}, i ≠ p → Γ[i]? = some g1 → g1.cells.isSome = true → μ[i]? = some m1 → m1.blk = some b → b < w.heap.size := by
  intro i g1 m1 b hi hg1 hs hm1 hb
  obtain ⟨v1, c1⟩ := g1
  obtain ⟨l1, rfl⟩ := Option.isSome_iff_exists.1 hs
  have := h.own i v1 l1 m1 hg1 hm1
  unfold OwnAt at this
  rw [hb] at this
  obtain ⟨_, c, T', e, _⟩ := this
  exact (Array.getElem?_eq_some_iff.1 e).1
 refine ⟨⟨h'.snap, by simp [h.len], ?_, ?_, ?_⟩, ⟨hM, ?_, ?_⟩⟩
 ·intro i g1 m1 hg1 hm1
  by_cases e : p = i
  ·subst e; simp [hpl] at hg1; simp [hml] at hm1; subst hg1; subst hm1; exact hvn
  ·rw [List.getElem?_set_ne e] at hg1 hm1; exact h.ver i g1 m1 hg1 hm1
 ·intro i v1 l1 m1 hg1 hm1
  by_cases e : p = i
  ·subst e
   simp [hpl] at hg1; simp [hml] at hm1
   obtain ⟨_, rfl⟩ := hg1; subst hm1
   unfold OwnAt
   split
   ·rename_i e; exact hnil e
   ·rename_i b e
    obtain ⟨k1, o, k2, k3⟩ := hblk b e
    refine ⟨?_, cs, o, k2, k3, VP.mono (SExt.refl S) hM _ _ hl⟩
    cases hs : S b with
    | none => rfl
    | some c => have := snap_lt h.snap hs; omega
  ·rw [List.getElem?_set_ne e] at hg1 hm1
   exact (h'.own i v1 l1 m1 hg1 hm1).mono hM
 ·intro i i' g1 g1' m1 m1' b hg1 hs hg1' hs' hm1 hm1' hb hb'
  by_cases e : p = i
  ·by_cases e' : p = i'
   ·omega
   ·subst e
    rw [List.getElem?_set_ne e'] at hg1' hm1'
    simp [hml] at hm1; subst hm1
    have k1 := (hblk b hb).1
    have k2 := hold (Ne.symm e') hg1' hs' hm1' hb'
    omega
  ·rw [List.getElem?_set_ne e] at hg1 hm1
   by_cases e' : p = i'
   ·subst e'
    simp [hml] at hm1'; subst hm1'
    have k1 := (hblk b hb').1
    have k2 := hold (Ne.symm e) hg1 hs hm1 hb
    omega
   ·rw [List.getElem?_set_ne e'] at hg1' hm1'
    exact h.sep i i' g1 g1' m1 m1' b hg1 hs hg1' hs' hm1 hm1' hb hb'
 ·intro i hi
  rw [List.getElem?_set_ne (hi (p, l) (by simp))]
 ·intro i m1 b hm1 hb
  by_cases e : p = i
  ·subst e; simp [hml] at hm1; subst hm1; exact .inr (hblk b hb).1
  ·rw [List.getElem?_set_ne e] at hm1; exact .inl hm1
theorem WI.fill_new {S : Snap} {μ : List Mu} {Γ : List Ob} {w w' : World} (h : WI S μ Γ w) (hg : Grow w w') {p es : Nat} {g : Ob} {l : List AV} {blk : Option Nat} {cs : Array Value} {T : TypeId} (hp : Γ[p]? = some g)
  (hblk : ∀ b, blk = some b → w.heap.size ≤ b ∧ w'.heap[b]? = some (.cells cs T (0, 0))) (hnil : blk = none → l = []) (hl : VP S μ l cs.toList) :
  WI S (μ.set p ⟨g.ver + 1, blk, cs.size, es, false⟩) (Γ.set p ⟨g.ver + 1, some l⟩) w' ∧ MuStep w.heap.size [(p, l)] μ (μ.set p ⟨g.ver + 1, blk, cs.size, es, false⟩) :=
 h.fill_any hg hp rfl (fun b hb => ⟨(hblk b hb).1, _, (hblk b hb).2, ⟨T, rfl⟩, rfl⟩) hnil hl
theorem fillOb_one {Γ : List Ob} {p : Nat} {g : Ob} {l : List AV} (hp : Γ[p]? = some g) : fillOb Γ [(p, l)] = Γ.set p ⟨g.ver + 1, some l⟩ := by
 simp [fillOb, fillOb1, hp]
def AV.cells? : AV → Option (List AV)
 | .agg l => some l
 | .x (.agg _) => none
 | .any => none
 | .nni => none
 | a => some [a]
theorem V.cells {S : Snap} {μ : List Mu} {a : AV} {v : Value} {l : List AV} (h : V S μ a v) (hl : a.cells? = some l) : VL S μ l v.cells.toList := by
 have one : ∀ {a : AV} {v : Value}, V S μ a v → v.cells = #[v] → VL S μ [a] v.cells.toList := by
  intro a v h e; rw [e]; simp only [VL, and_true]; exact h
 cases a with
 | agg l' =>
  simp [AV.cells?] at hl; subst hl
  simp only [V] at h
  obtain ⟨cs, rfl, h⟩ := h
  exact h
 | any => simp [AV.cells?] at hl
 | nni => simp [AV.cells?] at hl
 | x u =>
  have h' := h
  simp only [V] at h'
  subst h'
  cases v <;> simp [AV.cells?] at hl <;> subst hl <;> exact one h rfl
 | f k c => simp [AV.cells?] at hl; subst hl; refine one h ?_; simp only [V] at h; obtain ⟨_, rfl, _⟩ := h; rfl
 | cx k r i => simp [AV.cells?] at hl; subst hl; refine one h ?_; simp only [V] at h; obtain ⟨_, _, rfl, _⟩ := h; rfl
 | bt k ik c => simp [AV.cells?] at hl; subst hl; refine one h ?_; simp only [V] at h; obtain ⟨_, rfl, _⟩ := h; rfl
 | sl n l' => simp [AV.cells?] at hl; subst hl; refine one h ?_; simp only [V] at h; obtain ⟨_, _, rfl, _⟩ := h; rfl
 | tup l' => simp [AV.cells?] at hl; subst hl; refine one h ?_; simp only [V] at h; obtain ⟨_, rfl, _⟩ := h; rfl
 | ptr l' => simp [AV.cells?] at hl; subst hl; refine one h ?_; simp only [V] at h; obtain ⟨_, _, _, rfl, _⟩ := h; rfl
 | fn g p q => simp [AV.cells?] at hl; subst hl; refine one h ?_; simp only [V] at h; obtain ⟨_, _, rfl, _⟩ := h; rfl
 | oref p ver off n => simp [AV.cells?] at hl; subst hl; refine one h ?_; simp only [V] at h; obtain ⟨_, _, _, _, _, rfl, _⟩ := h; rfl
 | mref p ver => simp [AV.cells?] at hl; subst hl; refine one h ?_; simp only [V] at h; obtain ⟨_, _, _, _, rfl, _⟩ := h; rfl
 | itr p ver => simp [AV.cells?] at hl; subst hl; refine one h ?_; simp only [V] at h; obtain ⟨_, _, _, _, rfl, _⟩ := h; rfl
 | optr p ver off => simp [AV.cells?] at hl; subst hl; refine one h ?_; simp only [V] at h; obtain ⟨_, _, _, _, rfl, _⟩ := h; rfl
theorem TOp.box_s {t : TypeId} {x : Operand} {r : AV} {l : List AV} (ho : o.op = .box t x) (hx : ev τ x = r) (hl : r.cells? = some l) : TOp P o τ Γ (.ptr l) [] := by
 intro S μ Γ2 a w _ _ hw h next Q hn
 have k1 := opnd h (x := x) (by simp [ho, Op.operands]) hx
 have k2 := k1.cells hl
 unfold Oper.wp
 have : (execOp a.eval o).run P w = .ok (.value (.pointer (some ⟨w.heap.size, 0, none⟩))) (more w (a.eval x).cells t) := by
  simp [execOp, ho, Instr.box, newVar, newRow, more]
 rw [this]
 have hS := snapAdd_ext hw.snap (a.eval x).cells
 refine hn _ μ _ _ hS (snapAdd_fresh _) (MuStep.refl _ _ _) (hw.settle_new (a.eval x).cells t) ?_ (more_grow w _ t)
 simp only [V]
 have hnone : S w.heap.size = none := by
  cases hs : S w.heap.size with
  | none => rfl
  | some c => have := snap_lt hw.snap hs; omega
 refine ⟨_, 0, (a.eval x).cells, rfl, by simp [snapAdd, hnone], ?_⟩
 exact VP.mono hS (MuLe.refl 0 μ) _ _ (by simpa using k2.vp)
theorem TOp.box_o {t : TypeId} {x : Operand} {r : AV} {l : List AV} (p : Nat) {g : Ob} (hp : Γ[p]? = some g) (ho : o.op = .box t x) (hx : ev τ x = r) (hl : r.cells? = some l) : TOp P o τ Γ (.optr p (g.ver + 1) 0) [(p, l)] := by
 intro S μ Γ2 a w _ hd hw h next Q hn
 have k1 := opnd h (x := x) (by simp [ho, Op.operands]) hx
 have k2 := k1.cells hl
 unfold Oper.wp
 have : (execOp a.eval o).run P w = .ok (.value (.pointer (some ⟨w.heap.size, 0, none⟩))) (more w (a.eval x).cells t) := by
  simp [execOp, ho, Instr.box, newVar, newRow, more]
 rw [this]
 have hp2 : Γ2[p]? = some g := (hd (p, l) (by simp)).trans hp
 obtain ⟨h1, h2⟩ := hw.fill_new (more_grow w (a.eval x).cells t) (es := 1) (l := l) (blk := some w.heap.size) hp2 (fun b hb => by simp at hb; subst hb; exact ⟨Nat.le_refl _, more_new w _ t⟩) (by simp) k2.vp
 refine hn S _ _ _ (SExt.refl S) (SFresh.refl _ S) h2 (by rw [fillOb_one hp2]; exact h1) ?_ (more_grow w _ t)
 have hml : p < μ.length := by rw [hw.len]; exact lt_of_getElem? hp2
 simp only [V]
 exact ⟨_, _, by simp [hml]; rfl, Nat.le_refl _, rfl, fun _ => ⟨_, rfl, rfl, rfl⟩⟩
def ZeroOk (zl : List AV) (z : Value) : Prop := ∀ S μ, VL S μ zl z.cells.toList
theorem TOp.alloc_o {t : TypeId} {z : Value} {l : List AV} (p : Nat) {g : Ob} (hp : Γ[p]? = some g) (hz : ∀ w, (zeroValue t).run P w = .ok z w) (hl : ZeroOk l z) (ho : o.op = .alloc t) : TOp P o τ Γ (.optr p (g.ver + 1) 0) [(p, l)] := by
 intro S μ Γ2 a w _ hd hw h next Q hn
 unfold Oper.wp
 have : (execOp a.eval o).run P w = .ok (.value (.pointer (some ⟨w.heap.size, 0, none⟩))) (more w z.cells t) := by
  simp [execOp, ho, Instr.alloc, hz, newVar, newRow, more]
 rw [this]
 have hp2 : Γ2[p]? = some g := (hd (p, l) (by simp)).trans hp
 obtain ⟨h1, h2⟩ := hw.fill_new (more_grow w z.cells t) (es := 1) (l := l) (blk := some w.heap.size) hp2 (fun b hb => by simp at hb; subst hb; exact ⟨Nat.le_refl _, more_new w _ t⟩) (by simp) (hl S μ).vp
 refine hn S _ _ _ (SExt.refl S) (SFresh.refl _ S) h2 (by rw [fillOb_one hp2]; exact h1) ?_ (more_grow w _ t)
 have hml : p < μ.length := by rw [hw.len]; exact lt_of_getElem? hp2
 simp only [V]
 exact ⟨_, _, by simp [hml]; rfl, Nat.le_refl _, rfl, fun _ => ⟨_, rfl, rfl, rfl⟩⟩
theorem own_cells {S : Snap} {μ : List Mu} {w : World} (hw : WI S μ Γ w) {p ver : Nat} {l : List AV} (hp : Γ[p]? = some ⟨ver, some l⟩) {m : Mu} (hm : μ[p]? = some m) {b : Nat} (hb : m.blk = some b) (hmp : m.mp = false) :
  ∃ cs T, w.heap[b]? = some (.cells cs T (0, 0)) ∧ cs.size = m.sz ∧ VP S μ l cs.toList ∧ S b = none := by
 have := hw.own p ver l m hp hm
 unfold OwnAt at this
 rw [hb] at this
 obtain ⟨h1, cs, T, h2, h3, h4⟩ := this
 obtain ⟨⟨T', rfl⟩, h5⟩ := h3.cells hmp
 exact ⟨cs, T', h2, h5, h4, h1⟩
theorem own_any {S : Snap} {μ : List Mu} {w : World} (hw : WI S μ Γ w) {p ver : Nat} {l : List AV} (hp : Γ[p]? = some ⟨ver, some l⟩) {m : Mu} (hm : μ[p]? = some m) {b : Nat} (hb : m.blk = some b) :
  ∃ cs T, w.heap[b]? = some T ∧ Img T m cs ∧ VP S μ l cs.toList ∧ S b = none := by
 have := hw.own p ver l m hp hm
 unfold OwnAt at this
 rw [hb] at this
 obtain ⟨h1, cs, T, h2, h3, h4⟩ := this
 exact ⟨cs, T, h2, h3, h4, h1⟩
theorem TOp.load1_o {t : TypeId} {x : Operand} {p ver off : Nat} {l : List AV} {r : AV} (hp : Γ[p]? = some ⟨ver, some l⟩) (hr : l[off]? = some r) (hg : ∀ w, (isAgg t).run P w = .ok false w) (ho : o.op = .load t x) (hx : ev τ x = .optr p ver off) : TOp P o τ Γ r [] := by
 intro S μ Γ2 a w hL _ hw h next Q hn
 have k1 := opnd h (x := x) (by simp [ho, Op.operands]) hx
 simp only [V] at k1
 obtain ⟨m, ad, h1, h2, h3, h4⟩ := k1
 have hp2 := hL.2 p ver l hp
 obtain ⟨b, hb, rfl, hmp⟩ := h4 (hw.ver p _ m hp2 h1)
 obtain ⟨cs, T, e1, e2, e3, _⟩ := own_cells hw hp2 h1 hb hmp
 obtain ⟨v, hv, hvr⟩ := e3.get hr
 have hv' : cs[off]? = some v := by simpa using hv
 have hc : w.cell? ⟨b, off, none⟩ = some v := by simp [World.cell?, e1, hv']
 unfold Oper.wp
 have : (execOp a.eval o).run P w = .ok (.value v) w := by simp [execOp, ho, h3, Instr.loadAt, Instr.sureAddr, loadVar, hg, hc]
 rw [this]
 exact hn S μ _ w (SExt.refl S) (SFresh.refl _ S) (MuStep.refl _ _ _) hw hvr (Grow.refl w)
theorem TOp.loadAgg_o {t : TypeId} {x : Operand} {p ver off n : Nat} {l r : List AV} (hp : Γ[p]? = some ⟨ver, some l⟩) (hg : ∀ w, (isAgg t).run P w = .ok true w) (hn : ∀ w, (sizeOf t).run P w = .ok n w) (ho : o.op = .load t x) (hx : ev τ x = .optr p ver off) (hr : (l.drop off).take n = r) (hlen : r.length = n) : TOp P o τ Γ (.agg r) [] := by
 intro S μ Γ2 a w hL _ hw h next Q hnx
 have k1 := opnd h (x := x) (by simp [ho, Op.operands]) hx
 simp only [V] at k1
 obtain ⟨m, ad, h1, h2, h3, h4⟩ := k1
 have hp2 := hL.2 p ver l hp
 obtain ⟨b, hb, rfl, hmp⟩ := h4 (hw.ver p _ m hp2 h1)
 obtain ⟨cs, T, e1, e2, e3, _⟩ := own_cells hw hp2 h1 hb hmp
 have h5 := ((e3.drop off).take n).vl_take
 rw [hr, hlen] at h5
 have hl2 : ((cs.toList.drop off).take n).length = n := by rw [h5.length, hlen]
 have key := run_loadCells_snap (P := P) (w := w) (b := b) (off := off) (vs := (cs.toList.drop off).take n) (fun i v hi => by
  have hlt := lt_of_getElem? hi
  rw [hl2] at hlt
  rw [List.getElem?_take, if_pos hlt, List.getElem?_drop] at hi
  simp only [World.cell?, e1]
  simpa using hi)
 rw [hl2] at key
 unfold Oper.wp
 have : (execOp a.eval o).run P w = .ok (.value (.agg ((cs.toList.drop off).take n).toArray)) w := by simp [execOp, ho, h3, Instr.loadAt, Instr.sureAddr, loadVar, hg, hn, key]
 rw [this]
 refine hnx S μ _ w (SExt.refl S) (SFresh.refl _ S) (MuStep.refl _ _ _) hw ?_ (Grow.refl w)
 simp only [V]
 exact ⟨_, rfl, by simpa using h5⟩
end
end Go.AM

namespace Go.AM
section
variable {P : Program} {o : Oper} {τ : List (Nat × AV)} {Γ : List Ob}
structure Lent (S : Snap) (μ : List Mu) (Γ : List Ob) (w : World) (Sb : Snap) : Prop where
 ext : SExt S Sb
 own : ∀ (p ver : Nat) (l : List AV) (m : Mu) (b : Nat), Γ[p]? = some ⟨ver, some l⟩ → μ[p]? = some m → m.blk = some b → m.mp = false → ∃ cs, Sb b = some cs ∧ VP S μ l cs.toList
def Bor (Γ : List Ob) (a a' : AV) : Prop := ∀ (S : Snap) (μ : List Mu) (Γ2 : List Ob) (w : World) (Sb : Snap) (v : Value), LiveLe Γ Γ2 → WI S μ Γ2 w → Lent S μ Γ2 w Sb → V S μ a v → V Sb [] a' v
def Bors (Γ : List Ob) (l l' : List AV) : Prop := ∀ (S : Snap) (μ : List Mu) (Γ2 : List Ob) (w : World) (Sb : Snap) (vs : List Value), LiveLe Γ Γ2 → WI S μ Γ2 w → Lent S μ Γ2 w Sb → VL S μ l vs → VL Sb [] l' vs
def BorP (Γ : List Ob) (l l' : List AV) : Prop := ∀ (S : Snap) (μ : List Mu) (Γ2 : List Ob) (w : World) (Sb : Snap) (vs : List Value), LiveLe Γ Γ2 → WI S μ Γ2 w → Lent S μ Γ2 w Sb → VP S μ l vs → VP Sb [] l' vs
theorem Bors.p {l l' : List AV} (h : Bors Γ l l') : BorP Γ l l' := by
 intro S μ Γ2 w Sb vs hΓ hw hL hv
 have h1 := h S μ Γ2 w Sb _ hΓ hw hL hv.vl_take
 have h2 := VP.app h1 (l' := []) (vs' := vs.drop l.length) (by simp only [VP])
 simpa using h2
theorem Bor.pure {a : AV} (ha : a.lt 0 = true) : Bor Γ a a := fun _ _ _ _ _ v _ _ hL hv => V.mono hL.ext (MuLe.refl 0 []) a v (V.pure ha hv)
theorem Bors.pure {l : List AV} (ha : AV.lts 0 l = true) : Bors Γ l l := fun _ _ _ _ _ v _ _ hL hv => VL.mono hL.ext (MuLe.refl 0 []) l v (VL.pure ha hv)
theorem Bors.nil : Bors Γ [] [] := Bors.pure rfl
theorem Bors.cons {a a' : AV} {l l' : List AV} (h : Bor Γ a a') (k : Bors Γ l l') : Bors Γ (a :: l) (a' :: l') := by
 intro S μ Γ2 w Sb vs hΓ hw hL hv
 cases vs with
 | nil => simp only [VL] at hv
 | cons v vs =>
  simp only [VL] at hv ⊢
  exact ⟨h S μ Γ2 w Sb v hΓ hw hL hv.1, k S μ Γ2 w Sb vs hΓ hw hL hv.2⟩
theorem Bor.agg {l l' : List AV} (h : Bors Γ l l') : Bor Γ (.agg l) (.agg l') := by
 intro S μ Γ2 w Sb v hΓ hw hL hv
 simp only [V] at hv ⊢
 obtain ⟨cs, h1, h2⟩ := hv
 exact ⟨cs, h1, h S μ Γ2 w Sb _ hΓ hw hL h2⟩
theorem Bor.tup {l l' : List AV} (h : Bors Γ l l') : Bor Γ (.tup l) (.tup l') := by
 intro S μ Γ2 w Sb v hΓ hw hL hv
 simp only [V] at hv ⊢
 obtain ⟨cs, h1, h2⟩ := hv
 exact ⟨cs, h1, h S μ Γ2 w Sb _ hΓ hw hL h2⟩
theorem Bor.oref {p ver off n : Nat} {l l' : List AV} (hp : Γ[p]? = some ⟨ver, some l⟩) (h : BorP Γ l l') {r : List AV} (hr : l' = r) : Bor Γ (.oref p ver off n) (.sl n r) := by
 intro S μ Γ2 w Sb v hΓ hw hL hv
 simp only [V] at hv ⊢
 obtain ⟨m, a, cap, h1, h2, h3, h4⟩ := hv
 have hp2 := hΓ.2 p ver l hp
 have h5 := h4 (hw.ver p _ m hp2 h1)
 cases hb : m.blk with
 | none =>
  rw [hb] at h5
  simp only at h5
  obtain ⟨rfl, _, rfl⟩ := h5
  have h6 := hw.own p ver l m hp2 h1
  unfold OwnAt at h6
  rw [hb] at h6
  simp only at h6
  subst h6
  refine ⟨a, 0, h3, Nat.le_refl _, .inl ?_⟩
  have := h S μ Γ2 w Sb [] hΓ hw hL (by simp only [VP])
  cases l' with
  | nil => simpa using hr.symm
  | cons x l' => simp only [VP] at this
 | some b =>
  rw [hb] at h5
  simp only at h5
  obtain ⟨rfl, h6, _, hmp⟩ := h5
  obtain ⟨cs, k1, k2⟩ := hL.own p ver l m b hp2 h1 hb hmp
  refine ⟨_, cap, h3, h6, .inr ⟨b, 0, cs, rfl, k1, ?_⟩⟩
  rw [← hr]
  exact (h S μ Γ2 w Sb _ hΓ hw hL k2).drop 0
theorem Bor.optr {p ver off : Nat} {l l' : List AV} (hp : Γ[p]? = some ⟨ver, some l⟩) (h : BorP Γ l l') {r : List AV} (hr : l'.drop off = r) : Bor Γ (.optr p ver off) (.ptr r) := by
 intro S μ Γ2 w Sb v hΓ hw hL hv
 simp only [V] at hv ⊢
 obtain ⟨m, a, h1, h2, h3, h4⟩ := hv
 have hp2 := hΓ.2 p ver l hp
 obtain ⟨b, hb, rfl, hmp⟩ := h4 (hw.ver p _ m hp2 h1)
 obtain ⟨cs, k1, k2⟩ := hL.own p ver l m b hp2 h1 hb hmp
 refine ⟨b, off, cs, h3, k1, ?_⟩
 rw [← hr]
 exact (h S μ Γ2 w Sb _ hΓ hw hL k2).drop off
theorem Bor.fn {g : Fn} {p p' q q' : List AV} (h : Bors Γ p p') (k : Bors Γ q q') : Bor Γ (.fn g p q) (.fn g p' q') := by
 intro S μ Γ2 w Sb v hΓ hw hL hv
 simp only [V] at hv ⊢
 obtain ⟨ps, qs, h1, h2, h3⟩ := hv
 exact ⟨ps, qs, h1, h S μ Γ2 w Sb _ hΓ hw hL h2, k S μ Γ2 w Sb _ hΓ hw hL h3⟩
open Classical in
noncomputable def lend (S : Snap) (μ : List Mu) (Γ : List Ob) (w : World) : Snap := ⟨fun b =>
 match S b with
 | some c => some c
 | none => if ∃ (p ver : Nat) (l : List AV) (m : Mu), Γ[p]? = some ⟨ver, some l⟩ ∧ μ[p]? = some m ∧ m.blk = some b then
   match w.heap[b]? with
   | some (.cells cs _ _) => some cs
   | _ => none
  else none, S.2.mono fun b c hb => by simp only [hb]⟩
theorem lend_some {S : Snap} {μ : List Mu} {Γ : List Ob} {w : World} {b : Nat} {c : Array Value} (h : lend S μ Γ w b = some c) :
  S b = some c ∨ ((∃ (p ver : Nat) (l : List AV) (m : Mu), Γ[p]? = some ⟨ver, some l⟩ ∧ μ[p]? = some m ∧ m.blk = some b) ∧ ∃ T fz, w.heap[b]? = some (.cells c T fz)) := by
 simp only [lend] at h
 split at h
 ·rename_i c' e; rw [e]; exact .inl h
 ·split at h
  ·rename_i hex
   split at h
   ·rename_i cs T fz e; simp at h; subst h; exact .inr ⟨hex, T, fz, e⟩
   ·cases h
  ·cases h
theorem lend_lent {S : Snap} {μ : List Mu} {Γ : List Ob} {w : World} (hw : WI S μ Γ w) : Lent S μ Γ w (lend S μ Γ w) := by
 refine ⟨fun b c hb => by simp [lend, hb], fun p ver l m b hp hm hb hmp => ?_⟩
 obtain ⟨cs, T, e1, e2, e3, e4⟩ := own_cells hw hp hm hb hmp
 refine ⟨cs, ?_, e3⟩
 have hex : ∃ (p ver : Nat) (l : List AV) (m : Mu), Γ[p]? = some ⟨ver, some l⟩ ∧ μ[p]? = some m ∧ m.blk = some b := ⟨p, ver, l, m, hp, hm, hb⟩
 simp only [lend, e4]
 rw [if_pos hex, e1]
theorem lend_snap {S : Snap} {μ : List Mu} {Γ : List Ob} {w : World} (hw : WI S μ Γ w) : WI (lend S μ Γ w) [] [] w := by
 refine ⟨fun b c hb => ?_, rfl, by simp, by simp, by simp⟩
 rcases lend_some hb with h | ⟨_, T, fz, h⟩
 ·exact hw.snap b c h
 ·exact ⟨T, fz, h⟩
theorem Ev.settle {f : FuncId} {args : List AV} {r r' : AV} {Γ' : List Ob} (h : Ev P f args [] r Γ') (hb : Bor Γ' r r') : Ev P f args [] r' [] := by
 intro S μ w vs hw ha
 refine (h S μ w vs hw ha).mono ?_
 rintro e w' ⟨v, S', μ', rfl, hv, hw', hfr⟩
 have hμ : μ = [] := by have := hw.len; simpa using this
 subst hμ
 refine ⟨v, lend S' μ' Γ' w', [], rfl, hb S' μ' Γ' w' _ v (LiveLe.refl _) hw' (lend_lent hw') hv, lend_snap hw', ?_⟩
 refine ⟨hfr.ext.trans (lend_lent hw').ext, fun i m hi => by simp at hi, fun i m b hi => by simp at hi, hfr.keep, hfr.size, hfr.os, hfr.tape, hfr.output, fun b c hb => ?_⟩
 rcases lend_some hb with h | ⟨⟨p, ver, l, m, _, hm, hb⟩, _⟩
 ·exact hfr.sf b c h
 ·rcases hfr.new p m b hm hb with ⟨m0, h0, _⟩ | h
  ·simp at h0
  ·exact .inr h
mutual
def AV.nos : AV → Bool
 | .sl _ l => l.isEmpty
 | .agg l => AV.noss l
 | .tup l => AV.noss l
 | .ptr _ => false
 | .fn _ p q => AV.noss p && AV.noss q
 | _ => true
def AV.noss : List AV → Bool
 | [] => true
 | a :: l => AV.nos a && AV.noss l
end
mutual
theorem V.noS {S S' : Snap} {μ : List Mu} : ∀ (a : AV) (v : Value), a.nos = true → V S μ a v → V S' μ a v
 | .x _, _, _, h => by simpa only [V] using h
 | .f _ _, _, _, h => by simpa only [V] using h
 | .cx _ _ _, _, _, h => by simpa only [V] using h
 | .bt _ _ _, _, _, h => by simpa only [V] using h
 | .any, _, _, _ => by simp only [V]
 | .nni, _, _, h => by simpa only [V] using h
 | .sl n l, v, hl, h => by
  simp only [AV.nos, List.isEmpty_iff] at hl
  subst hl
  simp only [V] at h ⊢
  obtain ⟨a, cap, h1, h2, _⟩ := h
  exact ⟨a, cap, h1, h2, .inl trivial⟩
 | .agg l, v, hl, h => by
  simp only [AV.nos] at hl
  simp only [V] at h ⊢
  obtain ⟨cs, h1, h2⟩ := h
  exact ⟨cs, h1, VL.noS l _ hl h2⟩
 | .tup l, v, hl, h => by
  simp only [AV.nos] at hl
  simp only [V] at h ⊢
  obtain ⟨cs, h1, h2⟩ := h
  exact ⟨cs, h1, VL.noS l _ hl h2⟩
 | .ptr _, _, hl, _ => by simp [AV.nos] at hl
 | .fn g p q, v, hl, h => by
  simp only [AV.nos, Bool.and_eq_true] at hl
  simp only [V] at h ⊢
  obtain ⟨ps, qs, h1, h2, h3⟩ := h
  exact ⟨ps, qs, h1, VL.noS p _ hl.1 h2, VL.noS q _ hl.2 h3⟩
 | .oref _ _ _ _, _, _, h => by simpa only [V] using h
 | .optr _ _ _, _, _, h => by simpa only [V] using h
 | .mref _ _, _, _, h => by simpa only [V] using h
 | .itr _ _, _, _, h => by simpa only [V] using h
theorem VL.noS {S S' : Snap} {μ : List Mu} : ∀ (l : List AV) (vs : List Value), AV.noss l = true → VL S μ l vs → VL S' μ l vs
 | [], [], _, _ => by simp only [VL]
 | a :: l, v :: vs, hl, h => by
  simp only [AV.noss, Bool.and_eq_true] at hl
  simp only [VL] at h ⊢
  exact ⟨V.noS a v hl.1 h.1, VL.noS l vs hl.2 h.2⟩
 | [], _ :: _, _, h => by simp only [VL] at h
 | _ :: _, [], _, h => by simp only [VL] at h
end
theorem VP.noS {S S' : Snap} {μ : List Mu} {l : List AV} {vs : List Value} (hl : AV.noss l = true) (h : VP S μ l vs) : VP S' μ l vs := by
 have h1 := VL.noS (S' := S') l _ hl h.vl_take
 have h2 := VP.app h1 (l' := []) (vs' := vs.drop l.length) (by simp only [VP])
 simpa using h2
def CallAs (P : Program) (o : Oper) (τ : List (Nat × AV)) (f : FuncId) (A : List AV) : Prop :=
 ∀ (S : Snap) (μ : List Mu) (a : Act) (w : World), (∀ x ∈ o.op.operands, V S μ (ev τ x) (a.eval x)) → ∃ vs : Array Value, (execOp a.eval o).run P w = .ok (.enter f vs) w ∧ VL S μ A vs.toList
theorem VL_evs {S : Snap} {μ : List Mu} {τ : List (Nat × AV)} {a : Act} : ∀ (l : List Operand), (∀ x ∈ l, V S μ (ev τ x) (a.eval x)) → VL S μ (l.map (ev τ)) (l.map a.eval)
 | [], _ => by simp only [List.map_nil, VL]
 | x :: l, h => by simp only [List.map_cons, VL]; exact ⟨h x (by simp), VL_evs l fun y hy => h y (by simp [hy])⟩
theorem CallAs.func {f : FuncId} {args : Array Operand} {tys : Array TypeId} {A : List AV} (hc : ∀ vs w, (callFunc f vs).run P w = .ok (.enter f vs) w) (ho : o.op = .call { callee := .value (.func f), args := args, argTypes := tys }) (hA : args.toList.map (ev τ) = A) : CallAs P o τ f A := by
 intro S μ a w h
 refine ⟨args.map a.eval, ?_, ?_⟩
 ·simp [execOp, ho, resolve, Act.eval, Deferred.ofValue, invoke, hc]
 ·rw [← hA, Array.toList_map]
  exact VL_evs args.toList fun x hx => h x (by simp [ho, Op.operands, Call.operands]; exact .inr (by simpa using hx))
theorem CallAs.fn {x : Operand} {f : FuncId} {args : Array Operand} {tys : Array TypeId} {p q A B : List AV} (hc : ∀ vs w, (callFunc f vs).run P w = .ok (.enter f vs) w) (ho : o.op = .call { callee := .value x, args := args, argTypes := tys }) (hx : ev τ x = .fn (.func f) p q)
  (hA : args.toList.map (ev τ) = A) (hB : p ++ A ++ q = B) : CallAs P o τ f B := by
 intro S μ a w h
 have k1 := opnd h (x := x) (by simp [ho, Op.operands, Call.operands]) hx
 simp only [V] at k1
 obtain ⟨ps, qs, k1, k2, k3⟩ := k1
 refine ⟨ps ++ args.map a.eval ++ qs, ?_, ?_⟩
 ·simp [execOp, ho, resolve, Deferred.ofValue, k1, invoke, hc]
 ·rw [← hB, ← hA]
  simp only [Array.toList_append, Array.toList_map]
  exact VL.app (VL.app k2 (VL_evs args.toList fun x hx => h x (by simp [ho, Op.operands, Call.operands]; exact .inr (by simpa using hx)))) k3
theorem FrI.toGrow {S S' : Snap} {μ' : List Mu} {w w' : World} (h : FrI S [] w S' μ' w') : Grow w w' :=
 ⟨h.size, fun b hb => h.keep b hb (fun i m hi => by simp at hi), h.os, h.tape, h.output⟩
theorem WI.lift {S S' : Snap} {μ : List Mu} {Γ : List Ob} {w w' : World} (h : WI S μ Γ w) (hg : Grow w w') (hS : SExt S S') (hF : SFresh w.heap.size S S') (hs : SnapOK S' w') : WI S' μ Γ w' := by
 have h' := h.grow hg
 refine ⟨hs, h'.len, h'.ver, fun p ver l m hp hm => ?_, h'.sep⟩
 have h0 := h.own p ver l m hp hm
 have h1 := h'.own p ver l m hp hm
 unfold OwnAt at *
 split at h1
 ·exact h1
 ·rename_i b hb
  rw [hb] at h0
  obtain ⟨e1, c0, T0, e0, _⟩ := h0
  have hlt := (Array.getElem?_eq_some_iff.1 e0).1
  obtain ⟨k1, c, T, k2, k3, k4⟩ := h1
  refine ⟨?_, c, T, k2, k3, VP.mono hS (MuLe.refl 0 μ) l _ k4⟩
  cases hsb : S' b with
  | none => rfl
  | some c' =>
   rcases hF b c' hsb with h | h
   ·rw [e1] at h; cases h
   ·omega
theorem TOp.call {f : FuncId} {A : List AV} {r : AV} (hc : CallAs P o τ f A) (hA : AV.lts 0 A = true) (hr : r.lt 0 = true) (hev : Ev P f A [] r []) : TOp P o τ Γ r [] := by
 intro S μ Γ2 a w _ _ hw h next Q hn
 obtain ⟨vs, hrun, hvs⟩ := hc S μ a w h
 unfold Oper.wp
 rw [hrun, Oper.upon_enter]
 refine (hev S [] w vs ⟨hw.snap, rfl, by simp, by simp, by simp⟩ (VL.pure hA hvs)).mono ?_
 rintro e w' ⟨v, S', μ', rfl, hv, hw', hfr⟩
 have hg := hfr.toGrow
 exact hn S' μ v w' hfr.ext hfr.sf (MuStep.refl _ _ _) (hw.lift hg hfr.ext hfr.sf hw'.snap) (V.pure hr hv) hg
theorem TOp.callB {f : FuncId} {A A' : List AV} {r : AV} (hc : CallAs P o τ f A) (hA : Bors Γ A A') (hr : r.lt 0 = true) (hs : r.nos = true) (hev : Ev P f A' [] r []) : TOp P o τ Γ r [] := by
 intro S μ Γ2 a w hL _ hw h next Q hn
 obtain ⟨vs, hrun, hvs⟩ := hc S μ a w h
 unfold Oper.wp
 rw [hrun, Oper.upon_enter]
 have hle := lend_lent hw
 refine (hev (lend S μ Γ2 w) [] w vs (lend_snap hw) (hA S μ Γ2 w _ vs.toList hL hw hle hvs)).mono ?_
 rintro e w' ⟨v, S', μ', rfl, hv, hw', hfr⟩
 have hg := hfr.toGrow
 exact hn S μ v w' (SExt.refl S) (SFresh.refl _ S) (MuStep.refl _ _ _) (hw.grow hg) (V.pure hr (V.noS r v hs hv)) hg
def backMu (tgt : List (Nat × Nat)) (μc : List Mu) (μ : List Mu) : List Mu :=
 (tgt.zip μc).foldl (fun μ p => μ.set p.1.1 { p.2 with ver := p.2.ver + p.1.2 }) μ
def backOb (tgt : List (Nat × Nat)) (Γc : List Ob) (Γ : List Ob) : List Ob :=
 (tgt.zip Γc).foldl (fun Γ p => Γ.set p.1.1 ⟨p.2.ver + p.1.2, p.2.cells.map (AV.rens (sigma tgt))⟩) Γ
theorem foldl_set_ne {α β : Type} {f : β → Nat} {g : β → α} {i : Nat} : ∀ {l : List β} {m : List α}, (∀ p ∈ l, f p ≠ i) → (l.foldl (fun m p => m.set (f p) (g p)) m)[i]? = m[i]?
 | [], _, _ => rfl
 | p :: l, m, h => by
  simp only [List.foldl_cons]
  rw [foldl_set_ne fun q hq => h q (by simp [hq]), List.getElem?_set_ne (h p (by simp))]
theorem foldl_set_length {α β : Type} {f : β → Nat} {g : β → α} : ∀ {l : List β} {m : List α}, (l.foldl (fun m p => m.set (f p) (g p)) m).length = m.length
 | [], _ => rfl
 | p :: l, m => by simp only [List.foldl_cons]; rw [foldl_set_length]; simp
theorem foldl_set_at {α β : Type} {f : β → Nat} {g : β → α} : ∀ {l : List β} {m : List α} {j : Nat} {p : β}, (l.map f).Nodup → l[j]? = some p → f p < m.length → (l.foldl (fun m p => m.set (f p) (g p)) m)[f p]? = some (g p)
 | [], _, _, _, _, h, _ => by simp at h
 | q :: l, m, j, p, hn, hj, hlt => by
  simp only [List.map_cons, List.nodup_cons] at hn
  simp only [List.foldl_cons]
  cases j with
  | zero =>
   simp at hj; subst hj
   rw [foldl_set_ne fun r hr e => hn.1 (by rw [← e]; exact List.mem_map_of_mem hr)]
   simp [hlt]
  | succ j =>
   simp at hj
   exact foldl_set_at hn.2 hj (by simpa using hlt)
theorem ROp.call {N : Nat} {f : FuncId} {A args : List AV} {Γc Γc' : List Ob} {r : AV} {sel ns : List (Nat × Nat)} {K : List (Nat × AV) → List Ob → Prop}
  (hc : CallAs P o τ f A) (hd : dstLt N o = true) (hsel : SelOk sel Γ Γc) (hlive : ∀ p ∈ sel, ∃ ver l, Γ[p.1]? = some ⟨ver, some l⟩) (hA : AV.rens (sigma sel) args = A) (hlt : AV.lts sel.length args = true)
  (hev : Ev P f args Γc r Γc') (hlen : Γc'.length = sel.length + ns.length) (hns : ∀ p ∈ ns, ∃ ver, Γ[p.1]? = some ⟨ver, none⟩ ∧ p.2 = ver + 1) (hnd : ((sel ++ ns).map (·.1)).Nodup)
  (hK : K (put τ o.dst (r.ren (sigma (sel ++ ns)))) (backOb (sel ++ ns) Γc' Γ)) : ROp P N o τ Γ K := by
 intro S0 μ0 w0 S μ a w hi next Q hn
 obtain ⟨vs, hrun, hvs⟩ := hc S μ a w fun x _ => hi.ci.ev x
 unfold Oper.wp
 rw [hrun, Oper.upon_enter]
 have hw := hi.wi
 have hσ := shift_selMu hw hsel
 rw [← hA] at hvs
 refine (hev S (selMu sel μ) w vs (hw.sel hsel) (VL.unren hσ args _ hlt hvs)).mono ?_
 rintro e w' ⟨v, S', μ', rfl, hv, hw', hfr⟩
 have hl1 : μ'.length = (sel ++ ns).length := by rw [hw'.len, hlen, List.length_append]
 -- where callee's name i lies
 have htl : ∀ p ∈ sel ++ ns, p.1 < μ.length := by
  intro p hp
  rw [hw.len]
  rcases List.mem_append.1 hp with hp | hp
  ·obtain ⟨ver, l, h⟩ := hlive p hp; exact lt_of_getElem? h
  ·obtain ⟨ver, h, _⟩ := hns p hp; exact lt_of_getElem? h
 have hzip : ∀ {α : Type} (l : List α), l.length = (sel ++ ns).length → (((sel ++ ns).zip l).map (fun p => p.1.1)) = (sel ++ ns).map (·.1) := by
  intro α l hl
  have : (((sel ++ ns).zip l).map (fun p => p.1.1)) = (((sel ++ ns).zip l).map (·.1)).map (·.1) := by rw [List.map_map]; rfl
  rw [this, List.map_fst_zip (by omega)]
 have hat : ∀ (i : Nat) (p : Nat × Nat) (m' : Mu), (sel ++ ns)[i]? = some p → μ'[i]? = some m' → (backMu (sel ++ ns) μ' μ)[p.1]? = some { m' with ver := m'.ver + p.2 } := by
  intro i p m' hp hm'
  have hz : ((sel ++ ns).zip μ')[i]? = some (p, m') := by rw [List.getElem?_zip_eq_some]; exact ⟨hp, hm'⟩
  exact foldl_set_at (f := fun p : (Nat × Nat) × Mu => p.1.1) (g := fun p => ({ p.2 with ver := p.2.ver + p.1.2 } : Mu)) (by rw [hzip μ' hl1]; exact hnd) hz (htl p (List.mem_of_getElem? hp))
 have hatO : ∀ (i : Nat) (p : Nat × Nat) (g' : Ob), (sel ++ ns)[i]? = some p → Γc'[i]? = some g' → (backOb (sel ++ ns) Γc' Γ)[p.1]? = some ⟨g'.ver + p.2, g'.cells.map (AV.rens (sigma (sel ++ ns)))⟩ := by
  intro i p g' hp hg'
  have hz : ((sel ++ ns).zip Γc')[i]? = some (p, g') := by rw [List.getElem?_zip_eq_some]; exact ⟨hp, hg'⟩
  exact foldl_set_at (f := fun p : (Nat × Nat) × Ob => p.1.1) (g := fun p => (⟨p.2.ver + p.1.2, p.2.cells.map (AV.rens (sigma (sel ++ ns)))⟩ : Ob)) (by rw [hzip Γc' (by rw [← hw'.len, hl1])]; exact hnd) hz (by rw [← hw.len]; exact htl p (List.mem_of_getElem? hp))
 have hnot : ∀ (i : Nat), (∀ p ∈ sel ++ ns, p.1 ≠ i) → (backMu (sel ++ ns) μ' μ)[i]? = μ[i]? ∧ (backOb (sel ++ ns) Γc' Γ)[i]? = Γ[i]? := by
  intro i hi
  exact ⟨foldl_set_ne fun p hp => hi p.1 (List.of_mem_zip hp).1, foldl_set_ne fun p hp => hi p.1 (List.of_mem_zip hp).1⟩
 have hcase : ∀ i : Nat, (∀ p ∈ sel ++ ns, p.1 ≠ i) ∨ ∃ (j : Nat) (p : Nat × Nat), (sel ++ ns)[j]? = some p ∧ p.1 = i := by
  intro i
  by_cases h : ∃ p ∈ sel ++ ns, p.1 = i
  ·obtain ⟨p, hp, e⟩ := h
   obtain ⟨j, hj, e'⟩ := List.mem_iff_getElem.1 hp
   exact .inr ⟨j, p, by rw [List.getElem?_eq_getElem hj, e'], e⟩
  ·exact .inl fun p hp e => h ⟨p, hp, e⟩
 have hselAt : ∀ (j : Nat) (p : Nat × Nat), j < sel.length → (sel ++ ns)[j]? = some p → sel[j]? = some p ∧ sigma sel j = p := by
  intro j p hj hp
  rw [List.getElem?_append_left hj] at hp
  exact ⟨hp, by simp [sigma, List.getD, hp]⟩
 have hnsAt : ∀ (j : Nat) (p : Nat × Nat), sel.length ≤ j → (sel ++ ns)[j]? = some p → p ∈ ns := by
  intro j p hj hp
  rw [List.getElem?_append_right hj] at hp
  exact List.mem_of_getElem? hp
 have hμ'at : ∀ (j : Nat) (p : Nat × Nat), (sel ++ ns)[j]? = some p → ∃ m', μ'[j]? = some m' := fun j p hp => getElem?_of_lt (by rw [hl1]; exact lt_of_getElem? hp)
 have hSel : ∀ (j : Nat) (p : Nat × Nat), j < sel.length → (sel ++ ns)[j]? = some p → ∃ m, μ[p.1]? = some m ∧ p.2 ≤ m.ver ∧ (selMu sel μ)[j]? = some { m with ver := m.ver - p.2 } := by
  intro j p hj hp
  have h1 := hσ j hj
  rw [(hselAt j p hj hp).2] at h1
  cases e1 : (selMu sel μ)[j]? with
  | none => rw [e1] at h1; exact h1.elim
  | some m1 =>
   cases e2 : μ[p.1]? with
   | none => rw [e1, e2] at h1; exact h1.elim
   | some m =>
    rw [e1, e2] at h1
    obtain ⟨h2, rfl⟩ := h1
    exact ⟨m, rfl, h2, rfl⟩
 have hSelMu : ∀ (j : Nat) (m1 : Mu), (selMu sel μ)[j]? = some m1 → ∃ p m, sel[j]? = some p ∧ μ[p.1]? = some m ∧ m1.blk = m.blk := by
  intro j m1 hm1
  have hj : j < sel.length := by have := lt_of_getElem? hm1; rwa [length_selMu] at this
  obtain ⟨p, hp⟩ := getElem?_of_lt hj
  have hp' : (sel ++ ns)[j]? = some p := by rw [List.getElem?_append_left hj]; exact hp
  obtain ⟨m, h1, _, h3⟩ := hSel j p hj hp'
  rw [h3] at hm1; simp at hm1; subst hm1
  exact ⟨p, m, hp, h1, rfl⟩
 have hM : MuLe w.heap.size μ (backMu (sel ++ ns) μ' μ) := by
  intro i m hm
  rcases hcase i with h | ⟨j, p, hp, rfl⟩
  ·exact ⟨m, by rw [(hnot i h).1]; exact hm, Nat.le_refl _, fun _ => rfl, fun _ hb => .inl hb⟩
  ·obtain ⟨m', hm'⟩ := hμ'at j p hp
   refine ⟨_, hat j p m' hp hm', ?_⟩
   rcases Nat.lt_or_ge j sel.length with hj | hj
   ·obtain ⟨m2, k1, k2, k3⟩ := hSel j p hj hp
    rw [hm] at k1; simp at k1; subst k1
    obtain ⟨m3, k4, k5, k6, k7⟩ := hfr.le j _ k3
    rw [hm'] at k4; simp at k4; subst k4
    simp only at k5 k6 k7 ⊢
    refine ⟨by omega, fun e => ?_, fun b hb => k7 b hb⟩
    have := k6 (by omega)
    rw [this]
    simp only
    rw [Nat.sub_add_cancel k2]
   ·obtain ⟨ver, k1, k2⟩ := hns p (hnsAt j p hj hp)
    have := hw.ver _ _ m k1 hm
    simp only at this ⊢
    refine ⟨by omega, fun e => by omega, fun b hb => ?_⟩
    rcases hfr.new j m' b hm' hb with ⟨m0, h0, _⟩ | h
    ·have := lt_of_getElem? h0; rw [length_selMu] at this; omega
    ·exact .inr h
 have hshift : ∀ (i : Nat) (m' : Mu), μ'[i]? = some m' → Shift (sigma (sel ++ ns) i).2 (some m') (backMu (sel ++ ns) μ' μ)[(sigma (sel ++ ns) i).1]? := by
  intro i m' hm'
  obtain ⟨p, hp⟩ : ∃ p, (sel ++ ns)[i]? = some p := getElem?_of_lt (by rw [← hl1]; exact lt_of_getElem? hm')
  have : sigma (sel ++ ns) i = p := by simp [sigma, List.getD, hp]
  rw [this, hat i p m' hp hm']
  exact ⟨by simp, by simp⟩
 have hS : SExt S S' := hfr.ext
 have hlen0 : (backMu (sel ++ ns) μ' μ).length = μ.length := foldl_set_length
 have hlen1 : (backOb (sel ++ ns) Γc' Γ).length = Γ.length := foldl_set_length
 have hg'at : ∀ (j : Nat) (p : Nat × Nat), (sel ++ ns)[j]? = some p → ∃ g', Γc'[j]? = some g' := fun j p hp => getElem?_of_lt (by rw [hlen, ← List.length_append]; exact lt_of_getElem? hp)
 -- an object that is not handed over lies as it did
 have hstay : ∀ (i ver : Nat) (l : List AV) (m : Mu) (b : Nat), (∀ p ∈ sel ++ ns, p.1 ≠ i) → Γ[i]? = some ⟨ver, some l⟩ → μ[i]? = some m → m.blk = some b → b < w.heap.size ∧ w'.heap[b]? = w.heap[b]? ∧ S' b = none := by
  intro i ver l m b hno hg hm hb
  obtain ⟨cs, T, e1, e2, e3, e4⟩ := own_any hw hg hm hb
  have hlt := (Array.getElem?_eq_some_iff.1 e1).1
  refine ⟨hlt, hfr.keep b hlt fun j m1 hm1 hb1 => ?_, ?_⟩
  ·obtain ⟨p, m2, k1, k2, k3⟩ := hSelMu j m1 hm1
   obtain ⟨ver', l', k4⟩ := hlive p (List.mem_of_getElem? k1)
   have := hw.sep i p.1 _ _ m m2 b hg rfl k4 rfl hm k2 hb (by rw [← k3]; exact hb1)
   exact hno p (List.mem_append.2 (.inl (List.mem_of_getElem? k1))) this.symm
  ·cases hs : S' b with
   | none => rfl
   | some c =>
    rcases hfr.sf b c hs with h | h
    ·rw [e4] at h; cases h
    ·omega
 -- the block of one that was handed over, or made
 have hback : ∀ (j : Nat) (p : Nat × Nat) (m' : Mu) (b : Nat), (sel ++ ns)[j]? = some p → μ'[j]? = some m' → m'.blk = some b → (∃ m ver l, μ[p.1]? = some m ∧ m.blk = some b ∧ Γ[p.1]? = some ⟨ver, some l⟩) ∨ w.heap.size ≤ b := by
  intro j p m' b hp hm' hb
  rcases hfr.new j m' b hm' hb with ⟨m0, h0, h1⟩ | h
  ·have hj : j < sel.length := by have := lt_of_getElem? h0; rwa [length_selMu] at this
   obtain ⟨m, k1, _, k3⟩ := hSel j p hj hp
   rw [k3] at h0; simp at h0; subst h0
   obtain ⟨ver, l, k4⟩ := hlive p (List.mem_of_getElem? (hselAt j p hj hp).1)
   exact .inl ⟨m, ver, l, k1, h1, k4⟩
  ·exact .inr h
 have hwi : WI S' (backMu (sel ++ ns) μ' μ) (backOb (sel ++ ns) Γc' Γ) w' := by
  refine ⟨hw'.snap, by rw [hlen0, hlen1, hw.len], ?_, ?_, ?_⟩
  ·intro i g m hg hm
   rcases hcase i with h | ⟨j, p, hp, rfl⟩
   ·rw [(hnot i h).1] at hm; rw [(hnot i h).2] at hg; exact hw.ver i g m hg hm
   ·obtain ⟨m', hm'⟩ := hμ'at j p hp
    obtain ⟨g', hg'⟩ := hg'at j p hp
    rw [hat j p m' hp hm'] at hm
    rw [hatO j p g' hp hg'] at hg
    simp at hm hg
    subst hm; subst hg
    have := hw'.ver j g' m' hg' hm'
    simp only; omega
  ·intro i ver l m hg hm
   rcases hcase i with h | ⟨j, p, hp, rfl⟩
   ·rw [(hnot i h).1] at hm; rw [(hnot i h).2] at hg
    have h0 := hw.own i ver l m hg hm
    unfold OwnAt at h0 ⊢
    split at h0
    ·exact h0
    ·rename_i b hb
     obtain ⟨k1, k2, k3⟩ := hstay i ver l m b h hg hm hb
     obtain ⟨_, cs, T, e1, e2, e3⟩ := h0
     exact ⟨k3, cs, T, k2.trans e1, e2, VP.mono hS hM l _ e3⟩
   ·obtain ⟨m', hm'⟩ := hμ'at j p hp
    obtain ⟨g', hg'⟩ := hg'at j p hp
    rw [hat j p m' hp hm'] at hm
    rw [hatO j p g' hp hg'] at hg
    simp at hm hg
    subst hm
    obtain ⟨_, l', hl', rfl⟩ := hg
    obtain ⟨gv, gc⟩ := g'
    simp only at hl'
    subst hl'
    exact (hw'.own j gv l' m' hg' hm').ren hshift ⟨rfl, rfl, rfl⟩
  ·intro i i' g g' m m' b hg hs hg' hs' hm hm' hb hb'
   rcases hcase i with h | ⟨j, p, hp, rfl⟩
   ·rw [(hnot i h).1] at hm; rw [(hnot i h).2] at hg
    obtain ⟨gv, gc⟩ := g
    obtain ⟨l, rfl⟩ := Option.isSome_iff_exists.1 hs
    rcases hcase i' with h' | ⟨j', p', hp', rfl⟩
    ·rw [(hnot i' h').1] at hm'; rw [(hnot i' h').2] at hg'
     exact hw.sep i i' _ _ m m' b hg hs hg' hs' hm hm' hb hb'
    ·exfalso
     obtain ⟨m1, hm1⟩ := hμ'at j' p' hp'
     rw [hat j' p' m1 hp' hm1] at hm'; simp at hm'; subst hm'
     have hlt := (hstay i gv l m b h hg hm hb).1
     rcases hback j' p' m1 b hp' hm1 hb' with ⟨m2, ver2, l2, k1, k2, k3⟩ | k
     ·have := hw.sep i p'.1 _ _ m m2 b hg rfl k3 rfl hm k1 hb k2
      exact h p' (List.mem_of_getElem? hp') this.symm
     ·omega
   ·obtain ⟨m1, hm1⟩ := hμ'at j p hp
    obtain ⟨g1, hg1⟩ := hg'at j p hp
    rw [hat j p m1 hp hm1] at hm; simp at hm; subst hm
    rw [hatO j p g1 hp hg1] at hg; simp at hg; subst hg
    rcases hcase i' with h' | ⟨j', p', hp', rfl⟩
    ·exfalso
     rw [(hnot i' h').1] at hm'; rw [(hnot i' h').2] at hg'
     obtain ⟨gv, gc⟩ := g'
     obtain ⟨l, rfl⟩ := Option.isSome_iff_exists.1 hs'
     have hlt := (hstay i' gv l m' b h' hg' hm' hb').1
     rcases hback j p m1 b hp hm1 hb with ⟨m2, ver2, l2, k1, k2, k3⟩ | k
     ·have := hw.sep i' p.1 _ _ m' m2 b hg' rfl k3 rfl hm' k1 hb' k2
      exact h' p (List.mem_of_getElem? hp) this.symm
     ·omega
    ·obtain ⟨m1', hm1'⟩ := hμ'at j' p' hp'
     obtain ⟨g1', hg1'⟩ := hg'at j' p' hp'
     rw [hat j' p' m1' hp' hm1'] at hm'; simp at hm'; subst hm'
     rw [hatO j' p' g1' hp' hg1'] at hg'; simp at hg'; subst hg'
     have : j = j' := hw'.sep j j' g1 g1' m1 m1' b hg1 (by simpa using hs) hg1' (by simpa using hs') hm1 hm1' hb hb'
     subst this
     rw [hp] at hp'; simp at hp'; rw [hp']
 have hfr' : FrI S0 μ0 w0 S' (backMu (sel ++ ns) μ' μ) w' := by
  refine ⟨hi.fr.ext.trans hS, hi.fr.le.trans hM hi.fr.size, ?_, ?_, Nat.le_trans hi.fr.size hfr.size, hfr.os.trans hi.fr.os, hfr.tape.trans hi.fr.tape, hfr.output.trans hi.fr.output, ?_⟩
  ·intro i m b hm hb
   rcases hcase i with h | ⟨j, p, hp, rfl⟩
   ·rw [(hnot i h).1] at hm; exact hi.fr.new i m b hm hb
   ·obtain ⟨m', hm'⟩ := hμ'at j p hp
    rw [hat j p m' hp hm'] at hm; simp at hm; subst hm
    rcases hback j p m' b hp hm' hb with ⟨m2, _, _, k1, k2, _⟩ | k
    ·exact hi.fr.new p.1 m2 b k1 k2
    ·exact .inr (Nat.le_trans hi.fr.size k)
  ·intro b hb hno
   have hb' := Nat.lt_of_lt_of_le hb hi.fr.size
   refine (hfr.keep b hb' fun j m1 hm1 hb1 => ?_).trans (hi.fr.keep b hb hno)
   obtain ⟨p, m2, k1, k2, k3⟩ := hSelMu j m1 hm1
   rw [k3] at hb1
   rcases hi.fr.new p.1 m2 b k2 hb1 with ⟨m0, h0, h1⟩ | h
   ·exact hno p.1 m0 h0 h1
   ·omega
  ·intro b c hb
   rcases hfr.sf b c hb with h | h
   ·exact hi.fr.sf b c h
   ·exact .inr (Nat.le_trans hi.fr.size h)
 refine hn S' _ v w' _ _ hS hK ⟨hfr', hwi, ?_, by rw [put_size]; exact hi.tsz, by rw [put_defers]; exact hi.dfr⟩
 exact (hi.ci.mono hS hM).put (fun d hd' => by rw [hi.tsz.1]; exact dstLt_spec hd d hd') (V.ren hshift r v hv)
end
end Go.AM

namespace Go.AM
section
variable {P : Program} {o : Oper} {τ : List (Nat × AV)} {Γ : List Ob}
def AV.one : AV → Bool
 | .agg _ => false
 | .tup _ => false
 | .any => false
 | .nni => false
 | .x v => v.oneCell'
 | _ => true
theorem V.one {S : Snap} {μ : List Mu} {a : AV} {v : Value} (h : V S μ a v) (ha : a.one = true) : v.oneCell' = true ∧ v.cells = #[v] := by
 cases a with
 | agg l => simp [AV.one] at ha
 | tup l => simp [AV.one] at ha
 | any => simp [AV.one] at ha
 | nni => simp [AV.one] at ha
 | x u => simp only [V] at h; subst h; simp only [AV.one] at ha; refine ⟨ha, ?_⟩; cases v <;> first | rfl | simp [Value.oneCell'] at ha
 | f k c => simp only [V] at h; obtain ⟨_, rfl, _⟩ := h; exact ⟨rfl, rfl⟩
 | cx k r i => simp only [V] at h; obtain ⟨_, _, rfl, _⟩ := h; exact ⟨rfl, rfl⟩
 | bt k ik c => simp only [V] at h; obtain ⟨_, rfl, _⟩ := h; exact ⟨rfl, rfl⟩
 | sl n l' => simp only [V] at h; obtain ⟨_, _, rfl, _⟩ := h; exact ⟨rfl, rfl⟩
 | ptr l' => simp only [V] at h; obtain ⟨_, _, _, rfl, _⟩ := h; exact ⟨rfl, rfl⟩
 | fn g p q => simp only [V] at h; obtain ⟨_, _, rfl, _⟩ := h; exact ⟨rfl, rfl⟩
 | oref p ver off n => simp only [V] at h; obtain ⟨_, _, _, _, _, rfl, _⟩ := h; exact ⟨rfl, rfl⟩
 | optr p ver off => simp only [V] at h; obtain ⟨_, _, _, _, rfl, _⟩ := h; exact ⟨rfl, rfl⟩
 | mref p ver => simp only [V] at h; obtain ⟨_, _, _, _, rfl, _⟩ := h; exact ⟨rfl, rfl⟩
 | itr p ver => simp only [V] at h; obtain ⟨_, _, _, _, rfl, _⟩ := h; exact ⟨rfl, rfl⟩
def recell (w : World) (b : Nat) (cs : Array Value) (T : TypeId) : World := { w with heap := w.heap.setIfInBounds b (.cells cs T) }
theorem setCell_recell {w : World} {b i : Nat} {cs : Array Value} {T : TypeId} (h : w.heap[b]? = some (.cells cs T (0, 0))) (v : Value) : w.setCell ⟨b, i, none⟩ v = recell w b (cs.setIfInBounds i v) T := by
 unfold World.setCell recell
 congr 1
 apply Array.ext_getElem?
 intro j
 have hb := (Array.getElem?_eq_some_iff.1 h).1
 simp only [Array.getElem?_modify]
 by_cases e : b = j
 ·subst e
  rw [if_pos rfl, h]
  simp [hb]
 ·rw [if_neg e, Array.getElem?_setIfInBounds_ne e]
theorem recell_at {w : World} {b : Nat} {cs c0 : Array Value} {T T0 : TypeId} {f0 : Nat × Nat} (h : w.heap[b]? = some (.cells c0 T0 f0)) : (recell w b cs T).heap[b]? = some (.cells cs T (0, 0)) := by
 have hb := (Array.getElem?_eq_some_iff.1 h).1
 simp [recell, hb]
theorem recell_ne {w : World} {b j : Nat} {cs : Array Value} {T : TypeId} (h : b ≠ j) : (recell w b cs T).heap[j]? = w.heap[j]? := by
 simp [recell, Array.getElem?_setIfInBounds_ne h]
theorem recell_recell {w : World} {b : Nat} {cs cs' : Array Value} {T : TypeId} : recell (recell w b cs T) b cs' T = recell w b cs' T := by
 unfold recell
 congr 1
 apply Array.ext_getElem?
 intro j
 by_cases e : b = j
 ·subst e; simp [Array.getElem?_setIfInBounds]
 ·simp [Array.getElem?_setIfInBounds_ne e]
def overlay {α : Type} (l : List α) (off : Nat) (m : List α) : List α := l.take off ++ m ++ l.drop (off + m.length)
theorem overlay_nil {α : Type} (l : List α) (off : Nat) : overlay l off [] = l := by simp [overlay]
theorem overlay_set {α : Type} {l : List α} {off : Nat} {x : α} (h : off < l.length) : overlay l off [x] = l.set off x := by
 simp only [overlay, List.length_cons, List.length_nil, Nat.zero_add, List.append_assoc, List.cons_append, List.nil_append]
 rw [List.set_eq_take_append_cons_drop, if_pos h]
theorem overlay_cons {α : Type} {l : List α} {off : Nat} {x : α} {m : List α} (h : off < l.length) : overlay l off (x :: m) = overlay (l.set off x) (off + 1) m := by
 have h1 : (l.set off x).take (off + 1) = l.take off ++ [x] := by
  rw [List.take_succ_eq_append_getElem (by simpa using h)]
  rw [List.take_set_of_le (Nat.le_refl _)]
  simp
 have h2 : (l.set off x).drop (off + 1 + m.length) = l.drop (off + 1 + m.length) := List.drop_set_of_lt (by omega)
 simp only [overlay, h1, h2, List.length_cons]
 simp [Nat.add_comm, Nat.add_left_comm]
theorem run_storeCells {w : World} {b : Nat} {T : TypeId} : ∀ (vs : List Value) (off i : Nat) (cs : Array Value), w.heap[b]? = some (.cells cs T (0, 0)) → off + i + vs.length ≤ cs.size → (∀ v ∈ vs, v.oneCell' = true) →
  (storeCells ⟨b, off, none⟩ vs i).run P w = .ok () (if vs = [] then w else recell w b (overlay cs.toList (off + i) vs).toArray T) := by
 intro vs
 induction vs generalizing w with
 | nil => intro off i cs _ _ _; simp [storeCells]
 | cons v vs ih =>
  intro off i cs h hlen hone
  have hb := (Array.getElem?_eq_some_iff.1 h).1
  have hlt : off + i < cs.size := by simp at hlen; omega
  have hc : w.cell? ⟨b, off + i, none⟩ = some cs[off + i] := by simp [World.cell?, h, hlt]
  have hfz : w.frozen? ⟨b, off + i, none⟩ = false := by simp [World.frozen?, h]
  have hst : (store (Addr.add ⟨b, off, none⟩ i) v).run P w = .ok () (recell w b (cs.setIfInBounds (off + i) v) T) := by
   rw [Addr.add_mk, run_store P w _ v _ (hone v (by simp)), hc]
   simp only [hfz, Bool.false_eq_true, if_false]
   rw [setCell_recell h]
  have h' : (recell w b (cs.setIfInBounds (off + i) v) T).heap[b]? = some (.cells (cs.setIfInBounds (off + i) v) T (0, 0)) := recell_at h
  have := ih (w := recell w b (cs.setIfInBounds (off + i) v) T) off (i + 1) _ h' (by simp at hlen ⊢; omega) (fun u hu => hone u (by simp [hu]))
  simp only [storeCells, Sem.run_bind, hst, Result.andThen_ok, this]
  rw [if_neg (List.cons_ne_nil v vs)]
  by_cases e : vs = []
  ·subst e
   rw [if_pos rfl, overlay_set (by simpa using hlt)]
   have : cs.setIfInBounds (off + i) v = (cs.toList.set (off + i) v).toArray := by apply Array.ext'; simp
   rw [this]
  ·rw [if_neg e, recell_recell]
   congr 2
   rw [overlay_cons (by simpa using hlt)]
   simp [Nat.add_assoc]
theorem VP.overlay {S : Snap} {μ : List Mu} {l m : List AV} {cs ms : List Value} {off : Nat} (h : VP S μ l cs) (k : VL S μ m ms) (hlen : off + m.length ≤ l.length) : VP S μ (AM.overlay l off m) (AM.overlay cs off ms) := by
 have h1 := (h.take off).vl_take
 have h2 : (l.take off).length = off := by simp; omega
 rw [h2] at h1
 unfold AM.overlay
 refine VP.app (VL.app h1 k) ?_
 rw [k.length]
 exact h.drop _
theorem WI.put {S : Snap} {μ : List Mu} {Γ : List Ob} {w : World} (h : WI S μ Γ w) {p ver b : Nat} {l l' : List AV} {m : Mu} {cs cs' : Array Value} {T : TypeId} (hp : Γ[p]? = some ⟨ver, some l⟩) (hm : μ[p]? = some m) (hb : m.blk = some b) (hc : w.heap[b]? = some (.cells cs T (0, 0)))
  (hsz : cs'.size = cs.size) (hl : VP S μ l' cs'.toList) : WI S μ (Γ.set p ⟨ver, some l'⟩) (recell w b cs' T) := by
 have hpl := lt_of_getElem? hp
 obtain ⟨c0, T0, e0, e1, e2, e3⟩ := own_any h hp hm hb
 rw [hc] at e0
 obtain rfl := Option.some.inj e0
 have hmp : m.mp = false := by
  cases hq : m.mp with
  | false => rfl
  | true => unfold Img at e1; rw [hq] at e1; rcases e1 with ⟨_, _, _, _, e1, _⟩ | ⟨_, _, _, _, _, e1, _⟩ <;> cases e1
 have hSne : ∀ b' c, S b' = some c → b ≠ b' := fun b' c hs e => by subst e; rw [e3] at hs; cases hs
 refine ⟨fun b' c hs => ?_, by simp [h.len], ?_, ?_, ?_⟩
 ·rw [recell_ne (hSne b' c hs)]; exact h.snap b' c hs
 ·intro i g m1 hg hm1
  by_cases e : p = i
  ·subst e; simp [hpl] at hg; subst hg; exact h.ver p ⟨ver, some l⟩ m1 hp hm1
  ·rw [List.getElem?_set_ne e] at hg; exact h.ver i g m1 hg hm1
 ·intro i v1 l1 m1 hg hm1
  by_cases e : p = i
  ·subst e
   simp [hpl] at hg
   obtain ⟨_, rfl⟩ := hg
   rw [hm] at hm1; simp at hm1; subst hm1
   unfold OwnAt
   rw [hb]
   refine ⟨e3, cs', _, recell_at hc, ?_, hl⟩
   unfold Img
   rw [hmp]
   refine ⟨⟨T, rfl⟩, hsz.trans ?_⟩
   obtain ⟨⟨T', e4⟩, e5⟩ := e1.cells hmp
   cases e4
   exact e5
  ·rw [List.getElem?_set_ne e] at hg
   have h1 := h.own i v1 l1 m1 hg hm1
   unfold OwnAt at h1 ⊢
   split at h1
   ·exact h1
   ·rename_i b1 hb1
    obtain ⟨k1, c1, T1, k2, k3⟩ := h1
    have hne : b ≠ b1 := fun eb => by
     subst eb
     exact e (h.sep p i _ _ m m1 b hp rfl hg rfl hm hm1 hb hb1)
    exact ⟨k1, c1, T1, by rw [recell_ne hne]; exact k2, k3⟩
 ·intro i i' g g' m1 m1' b1 hg hs hg' hs' hm1 hm1' hb1 hb1'
  have key : ∀ {i : Nat} {g : Ob}, (Γ.set p ⟨ver, some l'⟩)[i]? = some g → g.cells.isSome = true → ∃ g0, Γ[i]? = some g0 ∧ g0.cells.isSome = true := by
   intro i g hg hs
   by_cases e : p = i
   ·subst e; exact ⟨_, hp, rfl⟩
   ·rw [List.getElem?_set_ne e] at hg; exact ⟨g, hg, hs⟩
  obtain ⟨g0, k1, k2⟩ := key hg hs
  obtain ⟨g0', k1', k2'⟩ := key hg' hs'
  exact h.sep i i' g0 g0' m1 m1' b1 k1 k2 k1' k2' hm1 hm1' hb1 hb1'
theorem ROp.store_le {N : Nat} {t : TypeId} {x y : Operand} {n p ver off : Nat} {l ys : List AV} {r : AV} {K : List (Nat × AV) → List Ob → Prop} (hn : ∀ w, (sizeOf t).run P w = .ok n w) (ho : o.op = .store t x y) (hd : o.dst = none)
  (hx : ev τ x = .optr p ver off) (hy : ∀ S μ v, V S μ (ev τ y) v → V S μ r v) (hc : r.cells? = some ys) (hone : ys.all AV.one = true) (hlen : ys.length = n) (hp : Γ[p]? = some ⟨ver, some l⟩) (hfit : off + ys.length ≤ l.length) (hK : K τ (Γ.set p ⟨ver, some (overlay l off ys)⟩)) : ROp P N o τ Γ K := by
 intro S0 μ0 w0 S μ a w hi next Q hnx
 have hw := hi.wi
 have k1 := hi.ci.ev x
 rw [hx] at k1
 simp only [V] at k1
 obtain ⟨m, ad, h1, h2, h3, h4⟩ := k1
 obtain ⟨b, hb, rfl, hmp⟩ := h4 (hw.ver p _ m hp h1)
 obtain ⟨cs, T, e1, e2, e3, e4⟩ := own_cells hw hp h1 hb hmp
 have k2 := hy _ _ _ (hi.ci.ev y)
 have k3 := k2.cells hc
 have hvl : (a.eval y).cells.size = ys.length := by rw [← Array.length_toList]; exact k3.length
 have hones : ∀ v ∈ (a.eval y).cells.toList, v.oneCell' = true := by
  have : ∀ (l : List AV) (vs : List Value), VL S μ l vs → l.all AV.one = true → ∀ v ∈ vs, v.oneCell' = true := by
   intro l
   induction l with
   | nil => intro vs h _ v hv; cases vs with
    | nil => cases hv
    | cons _ _ => simp only [VL] at h
   | cons x l ih => intro vs h ha v hv; cases vs with
    | nil => simp only [VL] at h
    | cons u vs =>
     simp only [VL] at h
     simp only [List.all_cons, Bool.and_eq_true] at ha
     rcases List.mem_cons.1 hv with e | hv
     ·subst e; exact (h.1.one ha.1).1
     ·exact ih vs h.2 ha.2 v hv
  exact this ys _ k3 hone
 have hcl : l.length ≤ cs.toList.length := e3.length
 have hrun : (execOp a.eval o).run P w = .ok .skip (if (a.eval y).cells.toList = [] then w else recell w b (overlay cs.toList off (a.eval y).cells.toList).toArray T) := by
  have := run_storeCells (P := P) (w := w) (b := b) (T := T) (a.eval y).cells.toList off 0 cs e1 (by simp at hcl ⊢; omega) hones
  simp only [Nat.add_zero] at this
  simp [execOp, ho, Instr.storeAt, h3, Instr.sureAddr, storeVar, hn, hvl, hlen, this]
 unfold Oper.wp
 rw [hrun, Oper.upon_skip]
 have hput : a.put o.dst undef = a := by rw [hd]; rfl
 by_cases hnil : (a.eval y).cells.toList = []
 ·rw [if_pos hnil]
  have hys : ys = [] := by rw [hnil] at k3; cases ys with
   | nil => rfl
   | cons _ _ => simp only [VL] at k3
  subst hys
  rw [overlay_nil] at hK
  have hΓ : Γ.set p ⟨ver, some l⟩ = Γ := by
   apply List.ext_getElem?
   intro i
   by_cases e : p = i
   ·subst e
    rw [List.getElem?_set_self (lt_of_getElem? hp), hp]
   ·rw [List.getElem?_set_ne e]
  rw [hΓ] at hK
  exact hnx S μ undef w τ Γ (SExt.refl S) hK (by rw [hput]; exact hi)
 ·rw [if_neg hnil]
  have hsz : (overlay cs.toList off (a.eval y).cells.toList).toArray.size = cs.size := by
   have h1 : (a.eval y).cells.toList.length = ys.length := k3.length
   simp only [List.size_toArray, overlay, List.length_append, List.length_take, List.length_drop, h1]
   simp at hcl
   simp only [Array.length_toList]
   omega
  have hw' := hw.put hp h1 hb e1 hsz (by simpa using e3.overlay k3 (by omega))
  refine hnx S μ undef _ τ _ (SExt.refl S) hK ?_
  rw [hput]
  refine ⟨⟨hi.fr.ext, hi.fr.le, hi.fr.new, ?_, by simpa [recell] using hi.fr.size, hi.fr.os, hi.fr.tape, hi.fr.output, hi.fr.sf⟩, hw', hi.ci, hi.tsz, hi.dfr⟩
  intro b' hb' hno
  have hne : b ≠ b' := by
   intro e
   subst e
   rcases hi.fr.new p m b h1 hb with ⟨m0, q1, q2⟩ | q
   ·exact hno p m0 q1 q2
   ·omega
  rw [recell_ne hne]
  exact hi.fr.keep b' hb' hno
theorem ROps.store_le {N : Nat} {all : Array Oper} {rest : List Oper} {Q : PQ} {t : TypeId} {x y : Operand} {n p ver off : Nat} {l ys : List AV} {r : AV} (hw : wantT all τ o = some true) (hn : ∀ w, (sizeOf t).run P w = .ok n w) (ho : o.op = .store t x y) (hd : o.dst = none)
  (hx : ev τ x = .optr p ver off) (hy : ∀ S μ v, V S μ (ev τ y) v → V S μ r v) (hc : r.cells? = some ys) (hone : ys.all AV.one = true) (hlen : ys.length = n) (hp : Γ[p]? = some ⟨ver, some l⟩) (hfit : off + ys.length ≤ l.length) {l' : List AV} (hl' : overlay l off ys = l') {Γ' : List Ob} (hΓ : Γ.set p ⟨ver, some l'⟩ = Γ') (h : ROps P N all rest τ Γ' Q) : ROps P N all (o :: rest) τ Γ Q :=
 ROps.op hw (ROp.store_le hn ho hd hx hy hc hone hlen hp hfit (by subst hl'; subst hΓ; exact h))
end
end Go.AM

namespace Go.AM
section
variable {P : Program} {o : Oper} {τ : List (Nat × AV)} {Γ : List Ob}
def readRes (tmps : Array Value) : ResultVar → Sem Value
 | .tmp t => pure (tmps.getD t undef)
 | .cell a t => do loadVar t (← asAddr (tmps.getD a undef))
def RV (P : Program) (τ : List (Nat × AV)) (Γ : List Ob) (rv : ResultVar) (r : AV) : Prop :=
 ∀ (S : Snap) (μ : List Mu) (a : Act) (w : World), WI S μ Γ w → CI S μ τ a → ∃ v, (readRes a.tmps rv).run P w = .ok v w ∧ V S μ r v
theorem RV.tmp {t : Nat} {r : AV} (h : look τ t = r) : RV P τ Γ (.tmp t) r := by
 intro S μ a w _ hc
 refine ⟨_, rfl, ?_⟩
 rw [← h]; exact hc t
theorem RV.cell {t : TypeId} {x p ver n : Nat} {l r : List AV} (hg : ∀ w, (isAgg t).run P w = .ok true w) (hn : ∀ w, (sizeOf t).run P w = .ok n w) (hx : look τ x = .optr p ver 0) (hp : Γ[p]? = some ⟨ver, some l⟩) (hr : l.take n = r) (hlen : r.length = n) : RV P τ Γ (.cell x t) (.agg r) := by
 intro S μ a w hw hc
 have k1 := hc x
 rw [hx] at k1
 simp only [V] at k1
 obtain ⟨m, ad, h1, h2, h3, h4⟩ := k1
 obtain ⟨b, hb, rfl, hmp⟩ := h4 (hw.ver p _ m hp h1)
 obtain ⟨cs, T, e1, e2, e3, _⟩ := own_cells hw hp h1 hb hmp
 have h5 := (e3.take n).vl_take
 rw [hr, hlen] at h5
 have hl2 : (cs.toList.take n).length = n := by rw [h5.length, hlen]
 have key := run_loadCells_snap (P := P) (w := w) (b := b) (off := 0) (vs := cs.toList.take n) (fun i v hi => by
  have hlt := lt_of_getElem? hi
  rw [hl2] at hlt
  rw [List.getElem?_take, if_pos hlt] at hi
  simp only [World.cell?, e1, Nat.zero_add]
  simpa using hi)
 rw [hl2] at key
 refine ⟨.agg (cs.toList.take n).toArray, ?_, ?_⟩
 ·simp [readRes, h3, asAddr, loadVar, hg, hn, key]
 ·simp only [V]
  exact ⟨_, rfl, by simpa using h5⟩
theorem results_eq (fn : Func) (tmps : Array Value) : results fn tmps = (do
  let vs ← fn.results.mapM (readRes tmps)
  pure (if h : vs.size = 1 then vs[0] else .tuple vs)) := by
 unfold results
 congr 1
theorem Res.one {fn : Func} {v1 : ResultVar} {r : AV} (hf : fn.results = #[v1]) (h1 : RV P τ Γ v1 r) : Res P fn τ Γ r := by
 intro S μ a w hw hc
 obtain ⟨u1, e1, k1⟩ := h1 S μ a w hw hc
 refine ⟨u1, ?_, k1⟩
 rw [results_eq, hf]
 simp [e1]
theorem Res.zero {fn : Func} (hf : fn.results = #[]) : Res P fn τ Γ (.tup []) := by
 intro S μ a w hw hc
 refine ⟨.tuple #[], ?_, ?_⟩
 ·rw [results_eq, hf]; simp
 ·simp only [V]; exact ⟨#[], rfl, by simp only [VL]⟩
theorem Res.two {fn : Func} {v1 v2 : ResultVar} {r1 r2 : AV} (hf : fn.results = #[v1, v2]) (h1 : RV P τ Γ v1 r1) (h2 : RV P τ Γ v2 r2) : Res P fn τ Γ (.tup [r1, r2]) := by
 intro S μ a w hw hc
 obtain ⟨u1, e1, k1⟩ := h1 S μ a w hw hc
 obtain ⟨u2, e2, k2⟩ := h2 S μ a w hw hc
 refine ⟨.tuple #[u1, u2], ?_, ?_⟩
 ·rw [results_eq, hf]; simp [e1, e2]
 ·simp only [V]; exact ⟨_, rfl, by simp only [VL]; exact ⟨k1, k2, trivial⟩⟩
theorem Res.three {fn : Func} {v1 v2 v3 : ResultVar} {r1 r2 r3 : AV} (hf : fn.results = #[v1, v2, v3]) (h1 : RV P τ Γ v1 r1) (h2 : RV P τ Γ v2 r2) (h3 : RV P τ Γ v3 r3) : Res P fn τ Γ (.tup [r1, r2, r3]) := by
 intro S μ a w hw hc
 obtain ⟨u1, e1, k1⟩ := h1 S μ a w hw hc
 obtain ⟨u2, e2, k2⟩ := h2 S μ a w hw hc
 obtain ⟨u3, e3, k3⟩ := h3 S μ a w hw hc
 refine ⟨.tuple #[u1, u2, u3], ?_, ?_⟩
 ·rw [results_eq, hf]; simp [e1, e2, e3]
 ·simp only [V]; exact ⟨_, rfl, by simp only [VL]; exact ⟨k1, k2, k3, trivial⟩⟩
theorem bodyQ.pure {fn : Func} {e : Exit} {r : AV} (he : e = .normal ∨ e = .ret) (hr : r.lt 0 = true) (h : Res P fn τ Γ r) : bodyQ P fn 0 r [] e τ Γ :=
 ⟨he, [], Nat.le_refl _, by simp, by rw [AV.ren_of_lt0 _ _ hr]; exact h, hr, rfl, by simp, by simp⟩
theorem wrap_i64 {n : Int} (h0 : -9223372036854775808 ≤ n) (h1 : n ≤ 9223372036854775807) : IntKind.i64.wrap n = n := by
 simp only [IntKind.wrap, IntKind.bits, IntKind.signed]
 simp
 split <;> omega
theorem TOp.makeSlice_o {t e : TypeId} {x y : Operand} {n : Int} {z : Value} {za : AV} {by_ : Nat} (p : Nat) {g : Ob} (hp : Γ[p]? = some g) (ht : ∀ w, (underlying t).run P w = .ok (.slice e) w) (hi : ∃ I, (∀ w, (typeInfo e).run P w = .ok I w) ∧ I.bytes = by_) (hsz : ∀ w, (sizeOf e).run P w = .ok 1 w)
  (hz : ∀ w, (zeroValue e).run P w = .ok z w) (hzc : z.cells = #[z]) (hza : ∀ S μ, V S μ za z) (ho : o.op = .makeSlice t x y) (hx : ev τ x = .i64 n) (hy : ev τ y = .i64 n) (h0 : 0 ≤ n) (hmax : n < 9223372036854775808) (hb : (by_ : Int) * n ≤ 281474976710656) :
  TOp P o τ Γ (.oref p (g.ver + 1) 0 n.toNat) [(p, List.replicate n.toNat za)] := by
 intro S μ Γ2 a w _ hd hw h next Q hnx
 have k1 := opnd h (x := x) (by simp [ho, Op.operands]) hx
 have k2 := opnd h (x := y) (by simp [ho, Op.operands]) hy
 simp only [V] at k1 k2
 obtain ⟨I, hI, hIb⟩ := hi
 have hwr : IntKind.i64.wrap n = n := wrap_i64 (by omega) (by omega)
 have hfill : ((Array.range n.toNat).map fun i => z.cells[i % z.cells.size]!) = (List.replicate n.toNat z).toArray := by
  apply Array.ext'
  simp only [Array.toList_map, Array.toList_range]
  apply List.ext_getElem?
  intro i
  simp only [List.getElem?_map, List.getElem?_replicate]
  rcases Nat.lt_or_ge i n.toNat with hlt | hge
  ·simp [hlt, hzc, Nat.mod_one]
  ·simp [Nat.not_lt.2 hge]
 have hrun : (execOp a.eval o).run P w = .ok (.value (.slice (some ⟨w.heap.size, 0, none⟩) n.toNat n.toNat)) (more w (List.replicate n.toNat z).toArray e) := by
  have c1 : ¬ (n < 0) := by omega
  have c2 : ¬ ((I.bytes : Int) * n > 281474976710656) := by rw [hIb]; omega
  by_cases hn0 : n.toNat = 0
  ·have hn : n = 0 := by omega
   subst hn
   simp [execOp, ho, k1, k2, Instr.makeSlice, ht, hI, asInt, asIntOf, hwr, hsz, newRow, more]
   rw [show Array.range 0 = #[] from by apply Array.ext'; simp]
   simp
  ·have := hfill
   simp [execOp, ho, k1, k2, Instr.makeSlice, ht, hI, asInt, asIntOf, hwr, hsz, newRow, more, c1, c2, hn0, hz]
   rw [this]
   simp
 unfold Oper.wp
 rw [hrun]
 have hp2 : Γ2[p]? = some g := (hd (p, List.replicate n.toNat za) (by simp)).trans hp
 have hvl : VP S μ (List.replicate n.toNat za) (List.replicate n.toNat z) := by
  generalize n.toNat = k
  induction k with
  | zero => simp only [List.replicate_zero, VP]
  | succ k ih => simp only [List.replicate_succ, VP]; exact ⟨hza S μ, ih⟩
 obtain ⟨h1, h2⟩ := hw.fill_new (more_grow w (List.replicate n.toNat z).toArray e) (es := 0) (l := List.replicate n.toNat za) (blk := some w.heap.size) (cs := (List.replicate n.toNat z).toArray) hp2 (fun b hb => by simp at hb; subst hb; exact ⟨Nat.le_refl _, more_new w _ e⟩) (by simp) (by simpa using hvl)
 refine hnx S _ _ _ (SExt.refl S) (SFresh.refl _ S) h2 (by rw [fillOb_one hp2]; exact h1) ?_ (more_grow w _ e)
 have hml : p < μ.length := by rw [hw.len]; exact lt_of_getElem? hp2
 simp only [V]
 refine ⟨_, _, _, by simp [hml]; rfl, Nat.le_refl _, rfl, fun _ => ?_⟩
 simp
end
end Go.AM

namespace Go.AM
section
variable {P : Program} {N : Nat}
def RunL (P : Program) (N : Nat) (c : Code) (τ : List (Nat × AV)) (Γ : List Ob) (Q : PQ) : Prop :=
 ∀ S0 μ0 w0 S μ a w, Inv S0 μ0 w0 N S μ τ Γ a w → ∀ (b : Frame) (k : List Item) (cs : List Frame),
  ∃ e a' w', Post S0 μ0 w0 N Q e a' w' ∧ Arrives P (lone (b.at a (.code c :: .inLoop c :: k)) cs w) b k cs e a' w'
theorem RunC.loop {c : Code} {τ : List (Nat × AV)} {Γ : List Ob} {Q : PQ} (h : RunL P N c τ Γ Q) : RunC P N (.loop c) τ Γ Q := by
 intro S0 μ0 w0 S μ a w hi b k cs
 obtain ⟨e, a', w', q, r⟩ := h S0 μ0 w0 S μ a w hi b k cs
 exact ⟨e, a', w', q, .of_steps (.one step_loop) r⟩
theorem RunL.step {c : Code} {τ : List (Nat × AV)} {Γ : List Ob} {Q : PQ} (h : RunC P N c τ Γ (thenQ (fun τ Γ => RunL P N c τ Γ Q) Q)) : RunL P N c τ Γ Q := by
 intro S0 μ0 w0 S μ a w hi b k cs
 obtain ⟨e, a₁, w₁, ⟨S1, μ1, τ1, Γ1, hq, hi1⟩, harr⟩ := h S0 μ0 w0 S μ a w hi b (.inLoop c :: k) cs
 cases e with
 | normal =>
  obtain ⟨e2, a2, w2, hq2, harr2⟩ := hq S0 μ0 w0 S1 μ1 a₁ w₁ hi1 b k cs
  exact ⟨e2, a2, w2, hq2, .of_steps (Steps.trans harr (.one step_inLoop)) harr2⟩
 | exit id => exact ⟨_, a₁, w₁, ⟨S1, μ1, τ1, Γ1, hq, hi1⟩, .pass (x := .inLoop c) rfl (fun _ _ => .inl (by simp)) harr⟩
 | goto l => exact ⟨_, a₁, w₁, ⟨S1, μ1, τ1, Γ1, hq, hi1⟩, .pass (x := .inLoop c) rfl (fun _ _ => .inl (by simp)) harr⟩
 | ret => exact ⟨_, a₁, w₁, ⟨S1, μ1, τ1, Γ1, hq, hi1⟩, .pass (x := .inLoop c) rfl (fun _ _ => .inl (by simp)) harr⟩
 | panic ch => exact ⟨_, a₁, w₁, ⟨S1, μ1, τ1, Γ1, hq, hi1⟩, .pass (x := .inLoop c) rfl (fun _ _ => .inl (by simp)) harr⟩
 | outgrown => exact ⟨_, a₁, w₁, ⟨S1, μ1, τ1, Γ1, hq, hi1⟩, .pass (x := .inLoop c) rfl (fun _ _ => .inl (by simp)) harr⟩
def WeakOk (τ : List (Nat × AV)) : List (Nat × AV) → Prop
 | [] => True
 | (d, v) :: r => look τ d = v ∧ WeakOk τ r
theorem WeakOk.all {τ : List (Nat × AV)} : ∀ {l : List (Nat × AV)}, WeakOk τ l → ∀ p ∈ l, look τ p.1 = p.2
 | [], _, _, hp => by cases hp
 | (d, v) :: r, h, p, hp => by
  rcases List.mem_cons.1 hp with e | hp
  ·subst e; exact h.1
  ·exact h.2.all p hp
theorem RunC.w {c : Code} {τ : List (Nat × AV)} (τ' : List (Nat × AV)) {Γ : List Ob} {Q : PQ} (hw : WeakOk τ τ') (h : RunC P N c τ' Γ Q) : RunC P N c τ Γ Q := RunC.weak τ' hw.all h
theorem RunL.w {c : Code} {τ : List (Nat × AV)} (τ' : List (Nat × AV)) {Γ : List Ob} {Q : PQ} (hw : WeakOk τ τ') (h : RunL P N c τ' Γ Q) : RunL P N c τ Γ Q :=
 fun S0 μ0 w0 S μ a w hi => h S0 μ0 w0 S μ a w ⟨hi.fr, hi.wi, hi.ci.weak hw.all, hi.tsz, hi.dfr⟩
section small
variable {τ : List (Nat × AV)} {Γ : List Ob} {K : List (Nat × AV) → List Ob → Prop} {Q : PQ} {all : Array Oper}
end small
end
end Go.AM

namespace Go.AM
def fop (op : BinOp) (k : FloatKind) (x y : F) : F := x.bind fun a => y.bind fun b => floatBits op k a b
def ford (k : FloatKind) (x y : F) : Option Ordering := x.bind fun a => y.bind fun b => k.format.order a b
def feq (k : FloatKind) (x y : F) : Bool := ford k x y == some .eq
def flt (k : FloatKind) (x y : F) : Bool := ford k x y == some .lt
def fle (k : FloatKind) (x y : F) : Bool := ford k x y == some .lt || ford k x y == some .eq
def fneg (k : FloatKind) (x : F) : F := x.map (Op.negFloat k)
def fwiden (x : F) : F := x.map fun b => FloatKind.f64.encode (FloatKind.f32.decode b)
def fint (k : FloatKind) (n : Int) : F := some (k.nearest n)
section words
open Ieee
theorem read_word (f : Format) (neg : Bool) {rung : Nat} (h : rung ≤ f.infRung) : (f.read (f.word neg rung)).isNaN = false := by
 have h1 := f.infRung_lt
 have h2 : f.word neg rung % f.signWeight = rung := by
  unfold Format.word
  split
  ·rw [Nat.add_mod_left]; exact Nat.mod_eq_of_lt (by omega)
  ·exact Nat.mod_eq_of_lt (by omega)
 simp only [Format.read, h2]
 split
 ·rfl
 ·split
  ·rfl
  ·have : rung = f.infRung := by omega
   rw [if_pos this]; rfl
theorem read_write (f : Format) {d : Datum} (h : d.isNaN = false) : (f.read (f.write d)).isNaN = false := by
 cases d with
 | number neg mag place =>
  simp only [Format.write, Format.nearest]
  split
  ·exact read_word f neg (Nat.zero_le _)
  ·exact read_word f neg (Nat.min_le_right _ _)
 | infinity neg => exact read_word f neg (Nat.le_refl _)
 | nan neg fr => simp [Datum.isNaN] at h
theorem sum_notNaN {a b d : Datum} (h : a.sum b = some d) : d.isNaN = false := by
 cases a <;> cases b <;> simp only [Datum.sum] at h <;> first
  | (cases h; done)
  | (split at h <;> first | (cases h; done) | (cases h; rfl))
  | (cases h; rfl)
theorem product_notNaN {a b d : Datum} (h : a.product b = some d) : d.isNaN = false := by
 cases a <;> cases b <;> simp only [Datum.product] at h <;> first
  | (cases h; done)
  | (split at h <;> first | (cases h; done) | (cases h; rfl))
  | (cases h; rfl)
theorem quotient_notNaN {a b d : Datum} {n : Nat} (h : a.quotient n b = some d) : d.isNaN = false := by
 cases a <;> cases b <;> simp only [Datum.quotient] at h <;> first
  | (cases h; done)
  | (split at h <;> first | (cases h; done) | (cases h; rfl) | (split at h <;> first | (cases h; done) | (cases h; rfl)))
  | (cases h; rfl)
theorem sum_nan {a b : Datum} (h : a.isNaN = true ∨ b.isNaN = true) : a.sum b = none := by
 cases a <;> cases b <;> simp [Datum.isNaN, Datum.sum] at h ⊢
theorem product_nan {a b : Datum} (h : a.isNaN = true ∨ b.isNaN = true) : a.product b = none := by
 cases a <;> cases b <;> simp [Datum.isNaN, Datum.product] at h ⊢
theorem quotient_nan {a b : Datum} {n : Nat} (h : a.isNaN = true ∨ b.isNaN = true) : a.quotient n b = none := by
 cases a <;> cases b <;> simp [Datum.isNaN, Datum.quotient] at h ⊢
theorem order_nan {a b : Datum} (h : a.isNaN = true ∨ b.isNaN = true) : a.order b = none := by
 cases a <;> cases b <;> simp [Datum.isNaN, Datum.order] at h ⊢
theorem opposite_nan {a : Datum} : a.opposite.isNaN = a.isNaN := by cases a <;> rfl
theorem floatBits_notNaN {op : BinOp} {k : FloatKind} {x y r : Nat} (h : floatBits op k x y = some r) : (k.format.read r).isNaN = false := by
 unfold floatBits at h
 split at h
 ·simp only [Format.add, Option.map_eq_some_iff] at h; obtain ⟨d, h1, rfl⟩ := h; exact read_write _ (sum_notNaN h1)
 ·simp only [Format.sub, Option.map_eq_some_iff] at h; obtain ⟨d, h1, rfl⟩ := h; exact read_write _ (sum_notNaN h1)
 ·simp only [Format.mul, Option.map_eq_some_iff] at h; obtain ⟨d, h1, rfl⟩ := h; exact read_write _ (product_notNaN h1)
 ·simp only [Format.div, Option.map_eq_some_iff] at h; obtain ⟨d, h1, rfl⟩ := h; exact read_write _ (quotient_notNaN h1)
 ·cases h
theorem floatBits_lt {op : BinOp} {k : FloatKind} {x y r : Nat} (h : floatBits op k x y = some r) : r < 2 ^ k.format.width := by
 unfold floatBits at h
 split at h
 ·exact k.format.add_lt h
 ·exact k.format.sub_lt h
 ·exact k.format.mul_lt h
 ·exact k.format.div_lt h
 ·cases h
theorem floatBits_nan {op : BinOp} {k : FloatKind} {x y : Nat} (h : (k.format.read x).isNaN = true ∨ (k.format.read y).isNaN = true) : floatBits op k x y = none := by
 unfold floatBits
 split
 ·simp [Format.add, sum_nan h]
 ·simp [Format.sub, sum_nan (h.imp id fun h => by rw [opposite_nan]; exact h)]
 ·simp [Format.mul, product_nan h]
 ·simp [Format.div, quotient_nan h]
 ·rfl
theorem fop_spec {op : BinOp} {k : FloatKind} {a b : Nat} {x y : F} (hx : FR k a x) (hy : FR k b y) : floatBits op k a b = fop op k x y := by
 cases x with
 | none => rw [floatBits_nan (.inl hx.2)]; rfl
 | some c =>
  cases y with
  | none => rw [floatBits_nan (.inr hy.2)]; rfl
  | some d => obtain ⟨rfl, _⟩ := hx; obtain ⟨rfl, _⟩ := hy; rfl
theorem ford_spec {k : FloatKind} {a b : Nat} {x y : F} (hx : FR k a x) (hy : FR k b y) : k.format.order a b = ford k x y := by
 cases x with
 | none => simp only [Format.order, order_nan (.inl hx.2)]; rfl
 | some c =>
  cases y with
  | none => simp only [Format.order, order_nan (.inr hy.2)]; rfl
  | some d => obtain ⟨rfl, _⟩ := hx; obtain ⟨rfl, _⟩ := hy; rfl
theorem nan_cut {k : FloatKind} (x y t : Nat) : FR k ((Question.nanBits k x y).cut t) none := by
 cases k
 ·have h : (Question.nanBits .f32 x y).cut t = (t % 2) * 2 ^ 31 + 0x7f800000 + 1 + (t / 2) % (2 ^ 23 - 1) := rfl
  rw [h]
  have h1 : t % 2 < 2 := Nat.mod_lt _ (by omega)
  have h2 : (t / 2) % (2 ^ 23 - 1) < 2 ^ 23 - 1 := Nat.mod_lt _ (by omega)
  refine ⟨?_, ?_⟩
  ·show _ < 2 ^ 32
   omega
  ·have e : ((t % 2) * 2 ^ 31 + 0x7f800000 + 1 + (t / 2) % (2 ^ 23 - 1)) % 2 ^ 31 = 0x7f800001 + (t / 2) % (2 ^ 23 - 1) := by omega
   show (Ieee.single.read _).isNaN = true
   have hw : Ieee.single.signWeight = 2 ^ 31 := rfl
   have hb : Ieee.single.binade = 2 ^ 23 := rfl
   have hi : Ieee.single.infRung = 0x7f800000 := rfl
   simp only [Format.read, hw, hb, hi, e]
   rw [if_neg (by omega), if_neg (by omega), if_neg (by omega)]; rfl
 ·have h : (Question.nanBits .f64 x y).cut t = (t % 2) * 2 ^ 63 + 0x7ff0000000000000 + 1 + (t / 2) % (2 ^ 52 - 1) := rfl
  rw [h]
  have h1 : t % 2 < 2 := Nat.mod_lt _ (by omega)
  have h2 : (t / 2) % (2 ^ 52 - 1) < 2 ^ 52 - 1 := Nat.mod_lt _ (by omega)
  refine ⟨?_, ?_⟩
  ·show _ < 2 ^ 64
   omega
  ·have e : ((t % 2) * 2 ^ 63 + 0x7ff0000000000000 + 1 + (t / 2) % (2 ^ 52 - 1)) % 2 ^ 63 = 0x7ff0000000000001 + (t / 2) % (2 ^ 52 - 1) := by omega
   show (Ieee.double.read _).isNaN = true
   have hw : Ieee.double.signWeight = 2 ^ 63 := rfl
   have hb : Ieee.double.binade = 2 ^ 52 := rfl
   have hi : Ieee.double.infRung = 0x7ff0000000000000 := rfl
   simp only [Format.read, hw, hb, hi, e]
   rw [if_neg (by omega), if_neg (by omega), if_neg (by omega)]; rfl
theorem FR.of_bits {op : BinOp} {k : FloatKind} {x y r : Nat} (h : floatBits op k x y = some r) : FR k r (some r) := ⟨rfl, floatBits_lt h, floatBits_notNaN h⟩
end words
section
variable {P : Program} {o : Oper} {τ : List (Nat × AV)} {Γ : List Ob}
def OpF (τ : List (Nat × AV)) (x : Operand) (k : FloatKind) (c : F) : Prop := ∀ (S : Snap) (μ : List Mu) (a : Act), V S μ (ev τ x) (a.eval x) → ∃ b, a.eval x = .float k b ∧ FR k b c
theorem OpF.tmp {x : Operand} {k : FloatKind} {c : F} (h : ev τ x = .f k c) : OpF τ x k c := by
 intro S μ a hv
 rw [h] at hv
 simpa only [V] using hv
theorem OpF.const {x : Operand} {k : FloatKind} {b : Nat} (h : ev τ x = .x (.float k b)) (hb : decide (b < 2 ^ k.format.width) = true) (hn : (k.format.read b).isNaN = false) : OpF τ x k (some b) := by
 intro S μ a hv
 rw [h] at hv
 simp only [V] at hv
 exact ⟨b, hv, rfl, of_decide_eq_true hb, hn⟩
theorem run_fop {op : BinOp} {k : FloatKind} {a b : Nat} {x y : F} (hx : FR k a x) (hy : FR k b y) (hop : op = .add ∨ op = .sub ∨ op = .mul ∨ op = .quo) (w : World) :
  ∃ r w', (Op.floatArith op k a b).run P w = .ok (.float k r) w' ∧ FR k r (fop op k x y) ∧ Grow w w' := by
 have hs := fop_spec (op := op) hx hy
 cases h : fop op k x y with
 | some r =>
  rw [h] at hs
  exact ⟨r, w, run_floatArith w hs, FR.of_bits hs, Grow.refl w⟩
 | none =>
  rw [h] at hs
  refine ⟨_, { w with drawn := w.drawn + 1 }, ?_, nan_cut a b (w.tape w.drawn (.nanBits k a b)), ⟨Nat.le_refl _, fun _ _ => rfl, rfl, rfl, rfl⟩⟩
  unfold floatBits at hs
  rcases hop with rfl | rfl | rfl | rfl <;> simp only at hs <;> simp [Op.floatArith, hs, Question.forced] <;> rfl
theorem TOp.fop {op : BinOp} {t ty : TypeId} {x y : Operand} {k : FloatKind} {a b : F} (hop : op = .add ∨ op = .sub ∨ op = .mul ∨ op = .quo) (ho : o.op = .binOp op t x y ty) (hx : OpF τ x k a) (hy : OpF τ y k b) : TOp P o τ Γ (.f k (AM.fop op k a b)) [] := by
 intro S μ Γ2 ac w _ _ hw h next Q hn
 obtain ⟨p, e1, f1⟩ := hx S μ ac (h x (by simp [ho, Op.operands]))
 obtain ⟨q, e2, f2⟩ := hy S μ ac (h y (by simp [ho, Op.operands]))
 obtain ⟨r, w', hrun, hfr, hg⟩ := run_fop (P := P) f1 f2 hop w
 unfold Oper.wp
 have : (execOp ac.eval o).run P w = .ok (.value (.float k r)) w' := by
  rcases hop with rfl | rfl | rfl | rfl <;> simp [execOp, ho, e1, e2, eqGuard, binOp, hrun]
 rw [this]
 exact hn S μ _ w' (SExt.refl S) (SFresh.refl _ S) (MuStep.refl _ _ _) (hw.grow hg) (by simp only [V]; exact ⟨r, rfl, hfr⟩) hg
theorem LOp.fcmp {op : BinOp} {t ty : TypeId} {x y : Operand} {k : FloatKind} {a b : F} {r : Bool} (ho : o.op = .binOp op t x y ty) (hx : OpF τ x k a) (hy : OpF τ y k b)
  (hr : ∀ p q w, k.format.order p q = ford k a b → (Op.floatCmp op k p q).run P w = .ok (.bool r) w) (hop : op = .eql ∨ op = .neq ∨ op = .lss ∨ op = .leq ∨ op = .gtr ∨ op = .geq) : LOp P o τ (.b r) := by
 intro S μ ac h
 obtain ⟨p, e1, f1⟩ := hx S μ ac (h x (by simp [ho, Op.operands]))
 obtain ⟨q, e2, f2⟩ := hy S μ ac (h y (by simp [ho, Op.operands]))
 refine ⟨.bool r, fun w _ => ?_, by simp only [V]⟩
 have := hr p q w (ford_spec f1 f2)
 rcases hop with rfl | rfl | rfl | rfl | rfl | rfl <;> simp [execOp, ho, e1, e2, eqGuard, binOp, this]
theorem ford_swap {k : FloatKind} {a b : F} : ford k b a = (ford k a b).map Ordering.swap := by
 cases a with
 | none => cases b <;> rfl
 | some x =>
  cases b with
  | none => rfl
  | some y =>
   show k.format.order y x = (k.format.order x y).map _
   unfold Ieee.Format.order
   cases k.format.read x <;> cases k.format.read y <;> simp only [Ieee.Datum.order, Option.map_none, Option.map_some]
   ·rename_i s m i t n j
    rw [show min j i = min i j from by omega]
    rw [← Int.compare_swap]
   ·rename_i s m i t; cases t <;> rfl
   ·rename_i s t n j; cases s <;> rfl
   ·rename_i s t; cases s <;> cases t <;> rfl
theorem LOp.feq {t ty : TypeId} {x y : Operand} {k : FloatKind} {a b : F} (ho : o.op = .binOp .eql t x y ty) (hx : OpF τ x k a) (hy : OpF τ y k b) : LOp P o τ (.b (AM.feq k a b)) :=
 LOp.fcmp ho hx hy (fun p q w h => by simp [Op.floatCmp, h, AM.feq]) (by simp)
theorem LOp.fne {t ty : TypeId} {x y : Operand} {k : FloatKind} {a b : F} (ho : o.op = .binOp .neq t x y ty) (hx : OpF τ x k a) (hy : OpF τ y k b) : LOp P o τ (.b (!AM.feq k a b)) :=
 LOp.fcmp ho hx hy (fun p q w h => by simp [Op.floatCmp, h, AM.feq, bne]) (by simp)
theorem LOp.flt {t ty : TypeId} {x y : Operand} {k : FloatKind} {a b : F} (ho : o.op = .binOp .lss t x y ty) (hx : OpF τ x k a) (hy : OpF τ y k b) : LOp P o τ (.b (AM.flt k a b)) :=
 LOp.fcmp ho hx hy (fun p q w h => by simp [Op.floatCmp, h, AM.flt]) (by simp)
theorem LOp.fle {t ty : TypeId} {x y : Operand} {k : FloatKind} {a b : F} (ho : o.op = .binOp .leq t x y ty) (hx : OpF τ x k a) (hy : OpF τ y k b) : LOp P o τ (.b (AM.fle k a b)) :=
 LOp.fcmp ho hx hy (fun p q w h => by simp [Op.floatCmp, h, AM.fle]) (by simp)
theorem swap_gt {o : Option Ordering} : (o.map Ordering.swap == some .lt) = (o == some .gt) := by cases o with | none => rfl | some o => cases o <;> rfl
theorem LOp.fgt {t ty : TypeId} {x y : Operand} {k : FloatKind} {a b : F} (ho : o.op = .binOp .gtr t x y ty) (hx : OpF τ x k a) (hy : OpF τ y k b) : LOp P o τ (.b (AM.flt k b a)) :=
 LOp.fcmp ho hx hy (fun p q w h => by simp only [Op.floatCmp, h, AM.flt]; rw [ford_swap (a := a) (b := b), swap_gt]; rfl) (by simp)
theorem encode_FR (k : FloatKind) {d : Ieee.Datum} (h : d.isNaN = false) : FR k (k.encode d) (some (k.encode d)) := ⟨rfl, k.format.write_lt d, read_write _ h⟩
theorem LOp.i2f {src dst : TypeId} {x : Operand} {k : FloatKind} {ik : IntKind} {n : Int} (hs : ∃ d, P.underlying src = some d) (hd : P.underlying dst = some (.float k)) (ho : o.op = .convert src dst x) (hx : ev τ x = .x (.int ik n)) : LOp P o τ (.f k (fint k n)) := by
 intro S μ a h
 obtain ⟨d, hs⟩ := hs
 have h1 := opnd h (x := x) (by simp [ho, Op.operands]) hx
 simp only [V] at h1
 refine ⟨.float k (k.nearest n), fun w _ => ?_, by simp only [V]; exact ⟨_, rfl, encode_FR k rfl⟩⟩
 cases d <;> simp [execOp, ho, h1, convert, run_underlying hs, run_underlying hd, Conv.intToFloat]
end
end Go.AM
