/- The abstract layer, first part: abstract values, what it means that a value of the machine is one of them, and the invariant that the judgements carry. -/
import Derived.OrdersHeld
import Derived.Laws.FloatArith
namespace Go.AM

/-- A float up to the bits of a NaN: 'none' is any NaN, 'some c' the number whose word is c. -/
abbrev F := Option Nat

def FR (k : FloatKind) (b : Nat) : F → Prop
  | some c => b = c ∧ c < 2 ^ k.format.width ∧ (k.format.read c).isNaN = false
  | none => b < 2 ^ k.format.width ∧ (k.format.read b).isNaN = true

inductive AV where
  | x (v : Value)
  | f (k : FloatKind) (c : F)
  | cx (k : FloatKind) (re im : F)
  | bt (k : FloatKind) (ik : IntKind) (c : F)
  | sl (n : Nat) (l : List AV)
  | agg (l : List AV)
  | tup (l : List AV)
  | ptr (l : List AV)
  | fn (g : Fn) (p q : List AV)
  | oref (o ver off len : Nat)
  | optr (o ver off : Nat)
  | any
  deriving Inhabited

structure Mu where
  ver : Nat
  blk : Option Nat
  sz : Nat
  es : Nat

structure Ob where
  ver : Nat
  cells : Option (List AV)

abbrev Snap := Nat → Option (Array Value)

mutual
def V (S : Snap) (μ : List Mu) : AV → Value → Prop
  | .x u, v => v = u
  | .f k c, v => ∃ b, v = .float k b ∧ FR k b c
  | .cx k r i, v => ∃ a b, v = .complex k a b ∧ FR k a r ∧ FR k b i
  | .bt k ik c, v => ∃ b : Nat, v = .int ik b ∧ FR k b c
  | .sl n l, v => ∃ a cap, v = .slice a n cap ∧ n ≤ cap ∧ (l = [] ∨ ∃ b off cs, a = some ⟨b, off, none⟩ ∧ S b = some cs ∧ VP S μ l (cs.toList.drop off))
  | .agg l, v => ∃ cs, v = .agg cs ∧ VL S μ l cs.toList
  | .tup l, v => ∃ cs, v = .tuple cs ∧ VL S μ l cs.toList
  | .ptr l, v => ∃ b off cs, v = .pointer (some ⟨b, off, none⟩) ∧ S b = some cs ∧ VP S μ l (cs.toList.drop off)
  | .fn g p q, v => ∃ ps qs, v = .func g ps qs ∧ VL S μ p ps.toList ∧ VL S μ q qs.toList
  | .oref o ver off len, v => ∃ m a cap, μ[o]? = some m ∧ ver ≤ m.ver ∧ v = .slice a len cap ∧ (m.ver = ver → match m.blk with
      | some b => a = some ⟨b, off, none⟩ ∧ len ≤ cap ∧ off + cap * (m.es + 1) ≤ m.sz
      | none => cap = 0 ∧ off = 0 ∧ len = 0)
  | .optr o ver off, v => ∃ m a, μ[o]? = some m ∧ ver ≤ m.ver ∧ v = .pointer (some a) ∧ (m.ver = ver → ∃ b, m.blk = some b ∧ a = ⟨b, off, none⟩)
  | .any, _ => True
def VP (S : Snap) (μ : List Mu) : List AV → List Value → Prop
  | [], _ => True
  | a :: l, v :: vs => V S μ a v ∧ VP S μ l vs
  | _ :: _, [] => False
def VL (S : Snap) (μ : List Mu) : List AV → List Value → Prop
  | [], [] => True
  | a :: l, v :: vs => V S μ a v ∧ VL S μ l vs
  | _, _ => False
end

def SExt (S S' : Snap) : Prop := ∀ b c, S b = some c → S' b = some c

/-- What has become of the names: an entry is as it was, or its version has gone up (then its block may be new: from B on). -/
def MuLe (B : Nat) (μ μ' : List Mu) : Prop :=
  ∀ (i : Nat) (m : Mu), μ[i]? = some m → ∃ m' : Mu, μ'[i]? = some m' ∧ m.ver ≤ m'.ver ∧ (m'.ver = m.ver → m' = m) ∧ (∀ b, m'.blk = some b → m.blk = some b ∨ B ≤ b)

theorem SExt.refl (S : Snap) : SExt S S := fun _ _ h => h
theorem SExt.trans {S S' S'' : Snap} (h : SExt S S') (k : SExt S' S'') : SExt S S'' := fun b c e => k b c (h b c e)
theorem MuLe.refl (B : Nat) (μ : List Mu) : MuLe B μ μ := fun _ m h => ⟨m, h, Nat.le_refl _, fun _ => rfl, fun _ hb => .inl hb⟩
theorem MuLe.trans {B B' : Nat} {μ μ' μ'' : List Mu} (h : MuLe B μ μ') (k : MuLe B' μ' μ'') (hB : B ≤ B') : MuLe B μ μ'' := by
  intro i m hm
  obtain ⟨m', h1, h2, h3, h4⟩ := h i m hm
  obtain ⟨m'', k1, k2, k3, k4⟩ := k i m' h1
  refine ⟨m'', k1, Nat.le_trans h2 k2, fun e => ?_, fun b hb => ?_⟩
  · have e1 : m''.ver = m'.ver := by omega
    have e2 := k3 e1
    subst e2
    exact h3 e
  · rcases k4 b hb with hb' | hb'
    · exact h4 b hb'
    · exact .inr (by omega)
theorem MuLe.append (B : Nat) (μ r : List Mu) : MuLe B μ (μ ++ r) := by
  intro i m hm
  have hi : i < μ.length := by
    rcases Nat.lt_or_ge i μ.length with h | h
    · exact h
    · simp [List.getElem?_eq_none h] at hm
  exact ⟨m, by rw [List.getElem?_append_left hi]; exact hm, Nat.le_refl _, fun _ => rfl, fun _ hb => .inl hb⟩

mutual
theorem V.mono {S S' : Snap} {B : Nat} {μ μ' : List Mu} (hS : SExt S S') (hm : MuLe B μ μ') : ∀ (a : AV) (v : Value), V S μ a v → V S' μ' a v
  | .x _, _, h => by simpa only [V] using h
  | .f _ _, _, h => by simpa only [V] using h
  | .cx _ _ _, _, h => by simpa only [V] using h
  | .bt _ _ _, _, h => by simpa only [V] using h
  | .sl n l, v, h => by
    simp only [V] at h ⊢
    obtain ⟨a, cap, h1, h2, h3⟩ := h
    refine ⟨a, cap, h1, h2, ?_⟩
    rcases h3 with h3 | ⟨b, off, cs, h4, h5, h6⟩
    · exact .inl h3
    · exact .inr ⟨b, off, cs, h4, hS _ _ h5, VP.mono hS hm l _ h6⟩
  | .agg l, v, h => by
    simp only [V] at h ⊢
    obtain ⟨cs, h1, h2⟩ := h
    exact ⟨cs, h1, VL.mono hS hm l _ h2⟩
  | .tup l, v, h => by
    simp only [V] at h ⊢
    obtain ⟨cs, h1, h2⟩ := h
    exact ⟨cs, h1, VL.mono hS hm l _ h2⟩
  | .ptr l, v, h => by
    simp only [V] at h ⊢
    obtain ⟨b, off, cs, h1, h2, h3⟩ := h
    exact ⟨b, off, cs, h1, hS _ _ h2, VP.mono hS hm l _ h3⟩
  | .fn g p q, v, h => by
    simp only [V] at h ⊢
    obtain ⟨ps, qs, h1, h2, h3⟩ := h
    exact ⟨ps, qs, h1, VL.mono hS hm p _ h2, VL.mono hS hm q _ h3⟩
  | .oref o ver off len, v, h => by
    simp only [V] at h ⊢
    obtain ⟨m, a, cap, h1, h2, h3, h4⟩ := h
    obtain ⟨m', k1, k2, k3, _⟩ := hm o m h1
    refine ⟨m', a, cap, k1, Nat.le_trans h2 k2, h3, fun e => ?_⟩
    have e1 : m'.ver = m.ver := by omega
    have e2 := k3 e1
    subst e2
    exact h4 e
  | .optr o ver off, v, h => by
    simp only [V] at h ⊢
    obtain ⟨m, a, h1, h2, h3, h4⟩ := h
    obtain ⟨m', k1, k2, k3, _⟩ := hm o m h1
    refine ⟨m', a, k1, Nat.le_trans h2 k2, h3, fun e => ?_⟩
    have e1 : m'.ver = m.ver := by omega
    have e2 := k3 e1
    subst e2
    exact h4 e
  | .any, _, _ => by simp only [V]
theorem VP.mono {S S' : Snap} {B : Nat} {μ μ' : List Mu} (hS : SExt S S') (hm : MuLe B μ μ') : ∀ (l : List AV) (vs : List Value), VP S μ l vs → VP S' μ' l vs
  | [], _, _ => by simp only [VP]
  | a :: l, v :: vs, h => by
    simp only [VP] at h ⊢
    exact ⟨V.mono hS hm a v h.1, VP.mono hS hm l vs h.2⟩
  | _ :: _, [], h => by simp only [VP] at h
theorem VL.mono {S S' : Snap} {B : Nat} {μ μ' : List Mu} (hS : SExt S S') (hm : MuLe B μ μ') : ∀ (l : List AV) (vs : List Value), VL S μ l vs → VL S' μ' l vs
  | [], [], _ => by simp only [VL]
  | a :: l, v :: vs, h => by
    simp only [VL] at h ⊢
    exact ⟨V.mono hS hm a v h.1, VL.mono hS hm l vs h.2⟩
  | [], _ :: _, h => by simp only [VL] at h
  | _ :: _, [], h => by simp only [VL] at h
end

theorem VL.vp {S : Snap} {μ : List Mu} : ∀ {l : List AV} {vs : List Value}, VL S μ l vs → VP S μ l vs
  | [], _, _ => by simp only [VP]
  | a :: l, v :: vs, h => by
    simp only [VL] at h
    simp only [VP]
    exact ⟨h.1, VL.vp h.2⟩
  | _ :: _, [], h => by simp only [VL] at h
theorem VL.length {S : Snap} {μ : List Mu} : ∀ {l : List AV} {vs : List Value}, VL S μ l vs → vs.length = l.length
  | [], [], _ => rfl
  | _ :: l, _ :: vs, h => by
    simp only [VL] at h
    simp [VL.length h.2]
  | [], _ :: _, h => by simp only [VL] at h
  | _ :: _, [], h => by simp only [VL] at h
theorem VP.length {S : Snap} {μ : List Mu} : ∀ {l : List AV} {vs : List Value}, VP S μ l vs → l.length ≤ vs.length
  | [], _, _ => Nat.zero_le _
  | _ :: l, _ :: vs, h => by
    simp only [VP] at h
    have := VP.length h.2
    simp; omega
  | _ :: _, [], h => by simp only [VP] at h
theorem VP.get {S : Snap} {μ : List Mu} : ∀ {l : List AV} {vs : List Value} {i : Nat} {a : AV}, VP S μ l vs → l[i]? = some a → ∃ v, vs[i]? = some v ∧ V S μ a v
  | [], _, _, _, _, h => by simp at h
  | b :: l, v :: vs, 0, a, h, e => by
    simp only [VP] at h
    simp at e
    subst e
    exact ⟨v, rfl, h.1⟩
  | b :: l, v :: vs, i + 1, a, h, e => by
    simp only [VP] at h
    simp at e
    simpa using VP.get h.2 e
  | _ :: _, [], _, _, h, _ => by simp only [VP] at h
theorem VL.get {S : Snap} {μ : List Mu} {l : List AV} {vs : List Value} {i : Nat} {a : AV} (h : VL S μ l vs) (e : l[i]? = some a) : ∃ v, vs[i]? = some v ∧ V S μ a v := h.vp.get e
theorem VP.set {S : Snap} {μ : List Mu} : ∀ {l : List AV} {vs : List Value} (i : Nat) {a : AV} {v : Value}, VP S μ l vs → V S μ a v → VP S μ (l.set i a) (vs.set i v)
  | [], _, _, _, _, _, _ => by simp only [List.set_nil, VP]
  | b :: l, w :: vs, 0, a, v, h, hv => by
    simp only [VP, List.set_cons_zero] at h ⊢
    exact ⟨hv, h.2⟩
  | b :: l, w :: vs, i + 1, a, v, h, hv => by
    simp only [VP, List.set_cons_succ] at h ⊢
    exact ⟨h.1, VP.set i h.2 hv⟩
  | _ :: _, [], _, _, _, h, _ => by simp only [VP] at h
theorem VP.drop {S : Snap} {μ : List Mu} : ∀ {l : List AV} {vs : List Value} (i : Nat), VP S μ l vs → VP S μ (l.drop i) (vs.drop i)
  | l, vs, 0, h => by simpa using h
  | [], _, i + 1, _ => by simp only [List.drop_nil, VP]
  | b :: l, w :: vs, i + 1, h => by
    simp only [VP] at h
    simpa using VP.drop i h.2
  | _ :: _, [], _ + 1, h => by simp only [VP] at h
theorem VP.take {S : Snap} {μ : List Mu} : ∀ {l : List AV} {vs : List Value} (i : Nat), VP S μ l vs → VP S μ (l.take i) vs
  | l, vs, 0, h => by simp only [List.take_zero, VP]
  | [], _, i + 1, _ => by simp only [List.take_nil, VP]
  | b :: l, w :: vs, i + 1, h => by
    simp only [VP] at h
    simp only [List.take_succ_cons, VP]
    exact ⟨h.1, VP.take i h.2⟩
  | _ :: _, [], _ + 1, h => by simp only [VP] at h
theorem VP.app {S : Snap} {μ : List Mu} : ∀ {l l' : List AV} {vs vs' : List Value}, VL S μ l vs → VP S μ l' vs' → VP S μ (l ++ l') (vs ++ vs')
  | [], _, [], _, _, h' => by simpa using h'
  | a :: l, l', v :: vs, vs', h, h' => by
    simp only [VL] at h
    simp only [List.cons_append, VP]
    exact ⟨h.1, VP.app h.2 h'⟩
  | [], _, _ :: _, _, h, _ => by simp only [VL] at h
  | _ :: _, _, [], _, h, _ => by simp only [VL] at h
theorem VL.app {S : Snap} {μ : List Mu} : ∀ {l l' : List AV} {vs vs' : List Value}, VL S μ l vs → VL S μ l' vs' → VL S μ (l ++ l') (vs ++ vs')
  | [], _, [], _, _, h' => by simpa using h'
  | a :: l, l', v :: vs, vs', h, h' => by
    simp only [VL] at h
    simp only [List.cons_append, VL]
    exact ⟨h.1, VL.app h.2 h'⟩
  | [], _, _ :: _, _, h, _ => by simp only [VL] at h
  | _ :: _, _, [], _, h, _ => by simp only [VL] at h
theorem VP.vl_take {S : Snap} {μ : List Mu} : ∀ {l : List AV} {vs : List Value}, VP S μ l vs → VL S μ l (vs.take l.length)
  | [], _, _ => by simp only [List.length_nil, List.take_zero, VL]
  | a :: l, v :: vs, h => by
    simp only [VP] at h
    simp only [List.length_cons, List.take_succ_cons, VL]
    exact ⟨h.1, VP.vl_take h.2⟩
  | _ :: _, [], h => by simp only [VP] at h
theorem VL.of_vp {S : Snap} {μ : List Mu} {l : List AV} {vs : List Value} (h : VP S μ l vs) (e : vs.length = l.length) : VL S μ l vs := by
  have := h.vl_take
  rwa [← e, List.take_length] at this

/-- Claims on slots: the first that names a slot counts. -/
def look : List (Nat × AV) → Nat → AV
  | [], _ => .any
  | (d, v) :: r, t => if d = t then v else look r t
def put (τ : List (Nat × AV)) (dst : Option Tmp) (v : AV) : List (Nat × AV) := match dst with
  | some d => (d, v) :: τ
  | none => τ

def CI (S : Snap) (μ : List Mu) (τ : List (Nat × AV)) (a : Act) : Prop := ∀ t, V S μ (look τ t) (a.tmps.getD t undef)

def OwnAt (S : Snap) (μ : List Mu) (w : World) (l : List AV) (m : Mu) : Prop := match m.blk with
  | none => l = []
  | some b => S b = none ∧ ∃ cs T, w.heap[b]? = some (.cells cs T (0, 0)) ∧ cs.size = m.sz ∧ VP S μ l cs.toList

structure WI (S : Snap) (μ : List Mu) (Γ : List Ob) (w : World) : Prop where
  snap : ∀ b cs, S b = some cs → ∃ T m, w.heap[b]? = some (.cells cs T m)
  len : μ.length = Γ.length
  ver : ∀ (o : Nat) (g : Ob) (m : Mu), Γ[o]? = some g → μ[o]? = some m → m.ver = g.ver
  own : ∀ (o ver : Nat) (l : List AV) (m : Mu), Γ[o]? = some ⟨ver, some l⟩ → μ[o]? = some m → OwnAt S μ w l m
  sep : ∀ (o o' : Nat) (g g' : Ob) (m m' : Mu) (b : Nat), Γ[o]? = some g → g.cells.isSome = true → Γ[o']? = some g' → g'.cells.isSome = true → μ[o]? = some m → μ[o']? = some m' → m.blk = some b → m'.blk = some b → o = o'

/-- The world's blocks are all as they were; there may be more. -/
structure Grow (w w' : World) : Prop where
  size : w.heap.size ≤ w'.heap.size
  block : ∀ b, b < w.heap.size → w'.heap[b]? = w.heap[b]?
  os : w'.os = w.os
  tape : w'.tape = w.tape
  output : w'.output = w.output

theorem Grow.refl (w : World) : Grow w w := ⟨Nat.le_refl _, fun _ _ => rfl, rfl, rfl, rfl⟩
theorem Grow.trans {a b c : World} (h : Grow a b) (k : Grow b c) : Grow a c :=
  ⟨Nat.le_trans h.size k.size, fun i hi => (k.block i (Nat.lt_of_lt_of_le hi h.size)).trans (h.block i hi), k.os.trans h.os, k.tape.trans h.tape, k.output.trans h.output⟩

/-- What stands between the start of a call (S0, μ0, w0) and now. -/
structure FrI (S0 : Snap) (μ0 : List Mu) (w0 : World) (S : Snap) (μ : List Mu) (w : World) : Prop where
  ext : SExt S0 S
  le : MuLe w0.heap.size μ0 μ
  new : ∀ (i : Nat) (m : Mu) (b : Nat), μ[i]? = some m → m.blk = some b → (∃ m0 : Mu, μ0[i]? = some m0 ∧ m0.blk = some b) ∨ w0.heap.size ≤ b
  keep : ∀ b, b < w0.heap.size → (∀ (i : Nat) (m : Mu), μ0[i]? = some m → m.blk ≠ some b) → w.heap[b]? = w0.heap[b]?
  size : w0.heap.size ≤ w.heap.size
  os : w.os = w0.os
  tape : w.tape = w0.tape
  output : w.output = w0.output
  sf : ∀ b c, S b = some c → S0 b = some c ∨ w0.heap.size ≤ b

structure Inv (S0 : Snap) (μ0 : List Mu) (w0 : World) (N : Nat) (S : Snap) (μ : List Mu) (τ : List (Nat × AV)) (Γ : List Ob) (a : Act) (w : World) : Prop where
  fr : FrI S0 μ0 w0 S μ w
  wi : WI S μ Γ w
  ci : CI S μ τ a
  tsz : a.tmps.size = N
  dfr : a.defers = []

abbrev PQ := Exit → List (Nat × AV) → List Ob → Prop

def Post (S0 : Snap) (μ0 : List Mu) (w0 : World) (N : Nat) (Q : PQ) : Exit → Act → World → Prop :=
  fun e a w => ∃ S μ τ Γ, Q e τ Γ ∧ Inv S0 μ0 w0 N S μ τ Γ a w

def RunC (P : Program) (N : Nat) (c : Code) (τ : List (Nat × AV)) (Γ : List Ob) (Q : PQ) : Prop :=
  ∀ S0 μ0 w0 S μ a w, Inv S0 μ0 w0 N S μ τ Γ a w → c.wp P (Post S0 μ0 w0 N Q) a w

theorem RunC.mono {P : Program} {N : Nat} {c : Code} {τ : List (Nat × AV)} {Γ : List Ob} {Q Q' : PQ} (h : RunC P N c τ Γ Q) (hq : ∀ e τ Γ, Q e τ Γ → Q' e τ Γ) : RunC P N c τ Γ Q' :=
  fun S0 μ0 w0 S μ a w hi => wp_mono (h S0 μ0 w0 S μ a w hi) fun _ _ _ ⟨S, μ, τ, Γ, q, i⟩ => ⟨S, μ, τ, Γ, hq _ _ _ q, i⟩

def thenQ (K : List (Nat × AV) → List Ob → Prop) (Q : PQ) : PQ := fun e τ Γ => match e with
  | .normal => K τ Γ
  | e => Q e τ Γ
def blockQ (id : Nat) (Q : PQ) : PQ := fun e τ Γ => match e with
  | .exit id' => if id' = id then Q .normal τ Γ else Q (.exit id') τ Γ
  | e => Q e τ Γ

theorem RunC.seq {P : Program} {N : Nat} {x y : Code} {τ : List (Nat × AV)} {Γ : List Ob} {Q : PQ} (h : RunC P N x τ Γ (thenQ (fun τ Γ => RunC P N y τ Γ Q) Q)) : RunC P N (.seq x y) τ Γ Q := by
  intro S0 μ0 w0 S μ a w hi
  refine wp_seq (wp_mono (h S0 μ0 w0 S μ a w hi) ?_)
  rintro e a' w' ⟨S', μ', τ', Γ', q, i⟩
  cases e <;> first | exact q S0 μ0 w0 S' μ' a' w' i | exact ⟨S', μ', τ', Γ', q, i⟩

theorem RunC.skip {P : Program} {N : Nat} {τ : List (Nat × AV)} {Γ : List Ob} {Q : PQ} (h : Q .normal τ Γ) : RunC P N .skip τ Γ Q :=
  fun _ _ _ S μ _ _ hi => wp_skip ⟨S, μ, τ, Γ, h, hi⟩
theorem RunC.label {P : Program} {N l : Nat} {τ : List (Nat × AV)} {Γ : List Ob} {Q : PQ} (h : Q .normal τ Γ) : RunC P N (.label l) τ Γ Q :=
  fun _ _ _ S μ _ _ hi => wp_label ⟨S, μ, τ, Γ, h, hi⟩
theorem RunC.exit {P : Program} {N id : Nat} {τ : List (Nat × AV)} {Γ : List Ob} {Q : PQ} (h : Q (.exit id) τ Γ) : RunC P N (.exit id) τ Γ Q :=
  fun _ _ _ S μ _ _ hi => wp_exit ⟨S, μ, τ, Γ, h, hi⟩
theorem RunC.ret {P : Program} {N : Nat} {τ : List (Nat × AV)} {Γ : List Ob} {Q : PQ} (h : Q .ret τ Γ) : RunC P N .ret τ Γ Q :=
  fun _ _ _ S μ _ _ hi => wp_ret ⟨S, μ, τ, Γ, h, hi⟩
theorem RunC.block {P : Program} {N id : Nat} {c : Code} {τ : List (Nat × AV)} {Γ : List Ob} {Q : PQ} (h : RunC P N c τ Γ (blockQ id Q)) : RunC P N (.block id c) τ Γ Q := by
  intro S0 μ0 w0 S μ a w hi
  refine wp_block (wp_mono (h S0 μ0 w0 S μ a w hi) ?_)
  rintro e a' w' ⟨S', μ', τ', Γ', q, i⟩
  cases e <;> try exact ⟨S', μ', τ', Γ', q, i⟩
  rename_i id'
  simp only [blockQ] at q
  simp only [Exit.inBlock]
  split
  · rename_i e; rw [if_pos e] at q; exact ⟨S', μ', τ', Γ', q, i⟩
  · rename_i e; rw [if_neg e] at q; exact ⟨S', μ', τ', Γ', q, i⟩

/-- The claim of an operand. -/
def ev (τ : List (Nat × AV)) : Operand → AV
  | .tmp t => look τ t
  | .const v => .x v
  | .global g => .x (.pointer (some ⟨g, 0, none⟩))
  | .func f => .fn (.func f) [] []
theorem CI.ev {S : Snap} {μ : List Mu} {τ : List (Nat × AV)} {a : Act} (h : CI S μ τ a) (o : Operand) : V S μ (ev τ o) (a.eval o) := by
  cases o with
  | tmp t => exact h t
  | const v => simp only [AM.ev, Act.eval, V]
  | global g => simp only [AM.ev, Act.eval, V]
  | func f => exact ⟨#[], #[], rfl, by simp only [VL], by simp only [VL]⟩

theorem RunC.cond {P : Program} {N : Nat} {c : Operand} {x y : Code} {τ : List (Nat × AV)} {Γ : List Ob} {Q : PQ} {t : Bool} (hc : ev τ c = .x (.bool t)) (h : RunC P N (if t then x else y) τ Γ Q) : RunC P N (.cond c x y) τ Γ Q := by
  intro S0 μ0 w0 S μ a w hi
  have := hi.ci.ev c
  rw [hc] at this
  simp only [V] at this
  exact wp_cond this (h S0 μ0 w0 S μ a w hi)
theorem RunC.cond_true {P : Program} {N : Nat} {c : Operand} {x y : Code} {τ : List (Nat × AV)} {Γ : List Ob} {Q : PQ} {t : Bool} (hc : ev τ c = .x (.bool t)) (ht : t = true) (h : RunC P N x τ Γ Q) : RunC P N (.cond c x y) τ Γ Q :=
  RunC.cond hc (by subst ht; exact h)
theorem RunC.cond_false {P : Program} {N : Nat} {c : Operand} {x y : Code} {τ : List (Nat × AV)} {Γ : List Ob} {Q : PQ} {t : Bool} (hc : ev τ c = .x (.bool t)) (ht : t = false) (h : RunC P N y τ Γ Q) : RunC P N (.cond c x y) τ Γ Q :=
  RunC.cond hc (by subst ht; exact h)

/-- Claims may be dropped, and own objects at the end of the list. -/
theorem CI.weak {S : Snap} {μ : List Mu} {τ τ' : List (Nat × AV)} {a : Act} (h : CI S μ τ a) (hw : ∀ p ∈ τ', look τ p.1 = p.2 ) : CI S μ τ' a := by
  intro t
  have key : ∀ l : List (Nat × AV), (∀ p ∈ l, look τ p.1 = p.2) → look l t = .any ∨ look l t = look τ t := by
    intro l
    induction l with
    | nil => intro _; exact .inl rfl
    | cons p l ih =>
      intro hl
      obtain ⟨d, v⟩ := p
      simp only [look]
      by_cases e : d = t
      · subst e
        rw [if_pos rfl]
        exact .inr (hl (d, v) (by simp)).symm
      · rw [if_neg e]
        exact ih fun q hq => hl q (by simp [hq])
  rcases key τ' hw with e | e
  · rw [e]; simp only [V]
  · rw [e]; exact h t
theorem RunC.weak {P : Program} {N : Nat} {c : Code} {τ : List (Nat × AV)} (τ' : List (Nat × AV)) {Γ : List Ob} {Q : PQ} (hw : ∀ p ∈ τ', look τ p.1 = p.2) (h : RunC P N c τ' Γ Q) : RunC P N c τ Γ Q :=
  fun S0 μ0 w0 S μ a w hi => h S0 μ0 w0 S μ a w ⟨hi.fr, hi.wi, hi.ci.weak hw, hi.tsz, hi.dfr⟩

theorem lt_of_getElem? {α : Type} {l : List α} {i : Nat} {a : α} (h : l[i]? = some a) : i < l.length := by
  rcases Nat.lt_or_ge i l.length with h' | h'
  · exact h'
  · simp [List.getElem?_eq_none h'] at h
theorem getElem?_of_lt {α : Type} {l : List α} {i : Nat} (h : i < l.length) : ∃ a, l[i]? = some a := ⟨l[i], List.getElem?_eq_getElem h⟩

/-- Room for own objects of the body: dead names behind those that there are. -/
theorem RunC.room {P : Program} {N : Nat} {c : Code} {τ : List (Nat × AV)} {Γ : List Ob} {Q : PQ} (k : Nat) (h : RunC P N c τ (Γ ++ List.replicate k ⟨0, none⟩) Q) : RunC P N c τ Γ Q := by
  intro S0 μ0 w0 S μ a w hi
  have hnew : ∀ (i : Nat) (m : Mu), (μ ++ List.replicate k (⟨0, none, 0, 0⟩ : Mu))[i]? = some m → μ[i]? = some m ∨ (μ.length ≤ i ∧ m = ⟨0, none, 0, 0⟩) := by
    intro i m hm
    rcases Nat.lt_or_ge i μ.length with hl | hl
    · rw [List.getElem?_append_left hl] at hm; exact .inl hm
    · rw [List.getElem?_append_right hl, List.getElem?_replicate] at hm
      split at hm
      · simp at hm; exact .inr ⟨hl, hm.symm⟩
      · cases hm
  have hΓ : ∀ (i : Nat) (g : Ob), (Γ ++ List.replicate k (⟨0, none⟩ : Ob))[i]? = some g → Γ[i]? = some g ∨ (Γ.length ≤ i ∧ g = ⟨0, none⟩) := by
    intro i g hg
    rcases Nat.lt_or_ge i Γ.length with hl | hl
    · rw [List.getElem?_append_left hl] at hg; exact .inl hg
    · rw [List.getElem?_append_right hl, List.getElem?_replicate] at hg
      split at hg
      · simp at hg; exact .inr ⟨hl, hg.symm⟩
      · cases hg
  have hlen := hi.wi.len
  refine h S0 μ0 w0 S (μ ++ List.replicate k ⟨0, none, 0, 0⟩) a w ⟨⟨hi.fr.ext, hi.fr.le.trans (MuLe.append w0.heap.size _ _) (Nat.le_refl _), ?_, hi.fr.keep, hi.fr.size, hi.fr.os, hi.fr.tape, hi.fr.output, hi.fr.sf⟩, ⟨hi.wi.snap, by simp [hlen], ?_, ?_, ?_⟩, ?_, hi.tsz, hi.dfr⟩
  · intro i m b hm hb
    rcases hnew i m hm with hm | ⟨_, rfl⟩
    · exact hi.fr.new i m b hm hb
    · simp at hb
  · intro o g m hg hm
    rcases hnew o m hm with hm | ⟨h1, rfl⟩
    · rcases hΓ o g hg with hg | ⟨h2, rfl⟩
      · exact hi.wi.ver o g m hg hm
      · have := lt_of_getElem? hm; omega
    · rcases hΓ o g hg with hg | ⟨h2, rfl⟩
      · have := lt_of_getElem? hg; omega
      · rfl
  · intro o ver l m hg hm
    rcases hΓ o _ hg with hg | ⟨h2, e⟩
    · rcases hnew o m hm with hm | ⟨h1, rfl⟩
      · have := hi.wi.own o ver l m hg hm
        unfold OwnAt at *
        split at this
        · exact this
        · obtain ⟨k1, cs, T, k2, k3, k4⟩ := this
          exact ⟨k1, cs, T, k2, k3, VP.mono (SExt.refl S) (MuLe.append 0 _ _) l _ k4⟩
      · have := lt_of_getElem? hg; omega
    · simp at e
  · intro o o' g g' m m' b hg hgs hg' hgs' hm hm' hb hb'
    rcases hnew o m hm with hm | ⟨_, rfl⟩
    · rcases hnew o' m' hm' with hm' | ⟨_, rfl⟩
      · rcases hΓ o g hg with hg | ⟨_, rfl⟩
        · rcases hΓ o' g' hg' with hg' | ⟨_, rfl⟩
          · exact hi.wi.sep o o' g g' m m' b hg hgs hg' hgs' hm hm' hb hb'
          · simp at hgs'
        · simp at hgs
      · simp at hb'
    · simp at hb
  · exact fun t => V.mono (SExt.refl S) (MuLe.append 0 _ _) _ _ (hi.ci t)

end Go.AM
