/- The abstract layer: append onto own slices; what a body hands back; nil slices as own ones. -/
import Derived.Test.YtmgjiomflefedaaAmGen2
namespace Go.AM
section
variable {P : Program} {N : Nat} {o : Oper} {τ : List (Nat × AV)} {Γ : List Ob} {Q : PQ}

theorem WI.bump {S : Snap} {μ : List Mu} {w : World} (h : WI S μ Γ w) {p ver : Nat} {l : List AV} {m : Mu} (hp : Γ[p]? = some ⟨ver, some l⟩) (hm : μ[p]? = some m) :
    WI S (μ.set p { m with ver := ver + 1 }) (Γ.set p ⟨ver + 1, some l⟩) w ∧ MuLe 0 μ (μ.set p { m with ver := ver + 1 }) := by
  have hv := h.ver p _ m hp hm
  simp only at hv
  have hM : MuLe 0 μ (μ.set p { m with ver := ver + 1 }) := MuLe.set hm (by simp only; omega) fun b hb => .inl hb
  have hpl := lt_of_getElem? hp
  have hml := lt_of_getElem? hm
  have back : ∀ {i : Nat} {g : Ob} {m' : Mu}, (Γ.set p ⟨ver + 1, some l⟩)[i]? = some g → (μ.set p { m with ver := ver + 1 })[i]? = some m' → (i = p ∧ g = ⟨ver + 1, some l⟩ ∧ m' = { m with ver := ver + 1 }) ∨ (i ≠ p ∧ Γ[i]? = some g ∧ μ[i]? = some m') := by
    intro i g m' hg hm'
    by_cases e : p = i
    · subst e
      simp [hpl] at hg; simp [hml] at hm'
      exact .inl ⟨rfl, hg.symm, hm'.symm⟩
    · rw [List.getElem?_set_ne e] at hg hm'
      exact .inr ⟨fun h => e h.symm, hg, hm'⟩
  refine ⟨⟨h.snap, by simp [h.len], ?_, ?_, ?_⟩, hM⟩
  · intro i g m' hg hm'
    rcases back hg hm' with ⟨rfl, rfl, rfl⟩ | ⟨_, hg, hm'⟩
    · rfl
    · exact h.ver i g m' hg hm'
  · intro i v l' m' hg hm'
    rcases back hg hm' with ⟨rfl, e, rfl⟩ | ⟨_, hg, hm'⟩
    · obtain ⟨rfl, rfl⟩ : v = ver + 1 ∧ l' = l := by simpa using e
      have := h.own i ver l' m hp hm
      unfold OwnAt at this ⊢
      simp only
      split at this
      · exact this
      · obtain ⟨k1, cs, T, k2, k3, k4⟩ := this
        exact ⟨k1, cs, T, k2, k3, VP.mono (SExt.refl S) hM _ _ k4⟩
    · exact (h.own i v l' m' hg hm').mono hM
  · intro i i' g g' m1 m1' b hg hs hg' hs' hm1 hm1' hb hb'
    rcases back hg hm1 with ⟨e1, e2, e3⟩ | ⟨_, hg1, hm2⟩
    · rcases back hg' hm1' with ⟨e4, _, _⟩ | ⟨_, hg2, hm3⟩
      · rw [e1, e4]
      · subst e3; rw [e1]; exact h.sep p i' _ g' m m1' b hp rfl hg2 hs' hm hm3 hb hb'
    · rcases back hg' hm1' with ⟨e4, e5, e6⟩ | ⟨_, hg2, hm3⟩
      · subst e6; rw [e4]; exact h.sep i p g _ m1 m b hg1 hs hp rfl hm2 hm hb hb'
      · exact h.sep i i' g g' m1 m1' b hg1 hs hg2 hs' hm2 hm3 hb hb'

/-- What is appended: a slice of m elements, one cell each. -/
def ReadAs (Γ : List Ob) (a : AV) (m : Nat) (ys : List AV) : Prop :=
  ys.length = m ∧ ∀ (S : Snap) (μ : List Mu) (w : World) (v : Value), WI S μ Γ w → V S μ a v →
    ∃ ad cap, v = .slice ad m cap ∧ (m = 0 ∨ ∃ b off us, ad = some ⟨b, off, none⟩ ∧ VL S μ ys us ∧ ∀ j u, us[j]? = some u → w.cell? ⟨b, off + j, none⟩ = some u)
theorem ReadAs.sl {n : Nat} {l : List AV} (hn : l.length = n) : ReadAs Γ (.sl n l) n l := by
  refine ⟨hn, fun S μ w v hw hv => ?_⟩
  simp only [V] at hv
  obtain ⟨a, cap, h1, h2, h3⟩ := hv
  refine ⟨a, cap, h1, ?_⟩
  rcases h3 with rfl | ⟨b, off, cs, h4, h5, h6⟩
  · simp at hn; exact .inl hn.symm
  · refine .inr ⟨b, off, (cs.toList.drop off).take l.length, h4, h6.vl_take, fun j u hj => ?_⟩
    obtain ⟨T, mm, hT⟩ := hw.snap b cs h5
    have hlt := lt_of_getElem? hj
    simp only [List.length_take] at hlt
    rw [List.getElem?_take, if_pos (by omega), List.getElem?_drop] at hj
    simp only [World.cell?, hT]
    simpa using hj
theorem ReadAs.own {p ver n : Nat} {l : List AV} (hp : Γ[p]? = some ⟨ver, some l⟩) (hn : l.length = n) : ReadAs Γ (.oref p ver 0 n) n l := by
  refine ⟨hn, fun S μ w v hw hv => ?_⟩
  simp only [V] at hv
  obtain ⟨m, a, cap, h1, h2, h3, h4⟩ := hv
  have h5 := h4 (hw.ver p _ m hp h1)
  refine ⟨a, cap, h3, ?_⟩
  cases hb : m.blk with
  | none => rw [hb] at h5; exact .inl h5.2.2
  | some b =>
    rw [hb] at h5
    obtain ⟨rfl, h6, h7⟩ := h5
    obtain ⟨cs, T, e1, e2, e3, e4⟩ := own_cells hw hp h1 hb
    refine .inr ⟨b, 0, cs.toList.take l.length, rfl, e3.vl_take, fun j u hj => ?_⟩
    have hlt := lt_of_getElem? hj
    simp only [List.length_take] at hlt
    rw [List.getElem?_take, if_pos (by omega)] at hj
    simp only [World.cell?, e1, Nat.zero_add]
    simpa using hj
theorem VL.ones {S : Snap} {μ : List Mu} : ∀ (l : List AV) (vs : List Value), VL S μ l vs → l.all AV.one = true → ∀ v ∈ vs, v.oneCell' = true
  | [], [], _, _, _, hv => by cases hv
  | x :: l, u :: vs, h, ha, v, hv => by
    simp only [VL] at h
    simp only [List.all_cons, Bool.and_eq_true] at ha
    rcases List.mem_cons.1 hv with e | hv
    · subst e; exact (h.1.one ha.1).1
    · exact VL.ones l vs h.2 ha.2 v hv
  | [], _ :: _, h, _, _, _ => by simp only [VL] at h
  | _ :: _, [], h, _, _, _ => by simp only [VL] at h

theorem ROp.append {t e : TypeId} {s x : Operand} {I : TypeInfo} {z : Value} {bytes : Nat} {p ver n m : Nat} {l ys : List AV} {K : List (Nat × AV) → List Ob → Prop}
    (ht : P.underlying t = some (.slice e)) (hI : P.info? e = some I) (hz : I.zero = some z) (hsz : I.size = 1) (hby : I.bytes = bytes) (hzs : z.cells.size = 1)
    (ho : o.op = .call { callee := .builtin .append, args := #[s, x], argTypes := #[t, t] }) (hd : dstLt N o = true) (hs : ev τ s = .oref p ver 0 n) (hp : Γ[p]? = some ⟨ver, some l⟩) (hl : l.length = n) (hx : ReadAs Γ (ev τ x) m ys) (hone : ys.all AV.one = true)
    (hb : (n + m) * bytes ≤ 140737488355328) (hmx : n + m ≤ 4611686018427387904) (hK : K (put τ o.dst (.oref p (ver + 1) 0 (n + m))) (Γ.set p ⟨ver + 1, some (l ++ ys)⟩)) : ROp P N o τ Γ K := by
  intro S0 μ0 w0 S μ a w hi next Q hnx
  have hw := hi.wi
  have k1 := hi.ci.ev s
  rw [hs] at k1
  simp only [V] at k1
  obtain ⟨mm, ad, cap, h1, h2, h3, h4⟩ := k1
  have hver := hw.ver p _ mm hp h1
  simp only at hver
  have h5 := h4 hver
  obtain ⟨adx, capx, h6, h7⟩ := hx.2 S μ w _ hw (hi.ci.ev x)
  have hym := hx.1
  have hml := lt_of_getElem? h1
  have hpl := lt_of_getElem? hp
  have hmax : maxLen = 9223372036854775807 := rfl
  -- the end, once for all: the new world is the old one with new blocks, the object lies in one of them
  have fin : ∀ (v' : Value) (w' : World) (olds us : List Value), (execOp a.eval o).run P w = .ok (.value v') w' → VL S μ l olds → VL S μ ys us → 0 < n + m → w'.ownsRow w.heap.size e 1 v' (n + m) (olds ++ us) → w.grownBy w' none → o.wp P a w next Q := by
    intro v' w' olds us hrun hol hus hpos hrow hgr
    unfold Oper.wp
    rw [hrun]
    obtain ⟨_, hrow⟩ := hrow
    rcases hrow with ⟨_, h0⟩ | ⟨g, cap', cur, rfl, hg1, hg2, hg3, hg4, hg5, hg6⟩
    · omega
    · have hG : Grow w w' := ⟨hgr.size, fun b hb => hgr.block b hb (fun e => by cases e), hgr.os, hgr.tape, hgr.output⟩
      have hvp : VP S μ (l ++ ys) cur.toList := by
        have e1 : cur.toList = (olds ++ us) ++ cur.toList.drop ((n + m) * 1) := by rw [← hg6, List.take_append_drop]
        rw [e1, List.append_assoc]
        refine VP.app hol ?_
        have := VP.app hus (l' := []) (vs' := cur.toList.drop ((n + m) * 1)) (by simp only [VP])
        simpa using this
      obtain ⟨q1, q2⟩ := hw.fill_new hG (es := 0) (l := l ++ ys) (blk := some g) (cs := cur) (T := e) hp (fun b hb => by simp at hb; subst hb; exact ⟨hg1, hg2⟩) (by simp) hvp
      refine hnx S _ _ w' _ _ (SExt.refl S) hK ⟨hi.fr.grow (SExt.refl S) (SFresh.refl _ S) q2 hG, q1, ?_, by rw [put_size]; exact hi.tsz, by rw [put_defers]; exact hi.dfr⟩
      refine (hi.ci.mono (SExt.refl S) q2.le).put (fun d hd' => by rw [hi.tsz]; exact dstLt_spec hd d hd') ?_
      simp only [V]
      refine ⟨_, _, _, by simp [hml]; rfl, Nat.le_refl _, rfl, fun _ => ?_⟩
      simp only [Nat.zero_add, Nat.mul_one]
      exact ⟨trivial, hg3, by omega⟩
  have hargs : (execOp a.eval o).run P w = ((Builtin.append_ #[t, t] o.type #[.slice ad n cap, .slice adx m capx]).run P w).andThen fun v w' => .ok (.value v) w' := by
    simp [execOp, ho, resolve, invoke, builtin, h3, h6]
  have hu : ∀ w, (underlying t).run P w = .ok (.slice e) w := run_underlying ht
  by_cases hm0 : m = 0
  · -- nothing is appended
    subst hm0
    have hys : ys = [] := List.eq_nil_of_length_eq_zero hym
    subst hys
    have hle : n ≤ cap := by
      cases hb' : mm.blk with
      | none => rw [hb'] at h5; simp only at h5; omega
      | some b => rw [hb'] at h5; exact h5.2.1
    have hfc : (Builtin.firstCells 1 0 (.slice adx 0 capx)).run P w = .ok #[] w := by
      cases adx <;> simp [Builtin.firstCells, loadCells, loadCellsFrom]
    have hrun : (execOp a.eval o).run P w = .ok (.value (.slice ad n cap)) w := by
      rw [hargs]
      cases ad <;> simp [Builtin.append_, hu, sizeOf, typeInfo, hI, hsz, Builtin.lenOf, hle, hfc, storeCells]
    obtain ⟨q1, q2⟩ := hw.bump hp h1
    unfold Oper.wp
    rw [hrun]
    rw [List.append_nil] at hK
    refine hnx S _ _ w _ _ (SExt.refl S) hK ⟨⟨hi.fr.ext, ?_, ?_, hi.fr.keep, hi.fr.size, hi.fr.os, hi.fr.tape, hi.fr.output, hi.fr.sf⟩, q1, ?_, by rw [put_size]; exact hi.tsz, by rw [put_defers]; exact hi.dfr⟩
    · exact hi.fr.le.trans (B' := w0.heap.size) (MuLe.set h1 (by simp only; omega) fun b hb => .inl hb) (Nat.le_refl _)
    · intro i m1 b hm1 hb1
      by_cases e : p = i
      · subst e; simp [hml] at hm1; subst hm1; exact hi.fr.new p mm b h1 hb1
      · rw [List.getElem?_set_ne e] at hm1; exact hi.fr.new i m1 b hm1 hb1
    · refine (hi.ci.mono (SExt.refl S) q2).put (fun d hd' => by rw [hi.tsz]; exact dstLt_spec hd d hd') ?_
      simp only [V]
      exact ⟨{ mm with ver := ver + 1 }, ad, cap, by simp [hml], Nat.le_refl _, rfl, fun _ => h5⟩
  · rcases h7 with h7 | ⟨bx, offx, us, rfl, h8, h9⟩
    · exact absurd h7 hm0
    have hul : us.length = m := by rw [h8.length, hym]
    have h9' : ∀ j u, us[j]? = some u → w.cell? (Addr.add ⟨bx, offx, none⟩ j) = some u := fun j u hj => by rw [Addr.add_mk]; exact h9 j u hj
    have hones := VL.ones ys us h8 hone
    cases hb' : mm.blk with
    | none =>
      rw [hb'] at h5
      simp only at h5
      obtain ⟨hc0, _, hn0⟩ := h5
      have hl0 : l = [] := List.eq_nil_of_length_eq_zero (by omega)
      subst hl0
      cases ad with
      | some b0 =>
        obtain ⟨v', w', r1, r2, r3⟩ := run_append_arg_grows (P := P) w t o.type e I z 1 bytes ht hI hz hsz hby hzs (by omega) b0 n cap [] (by simp; omega) (by simp) ⟨bx, offx, none⟩ m capx us (by omega) h9' (by omega) (by omega) hb
        exact fin v' w' [] us (by rw [hargs, r1]; rfl) (by simp only [VL]) h8 (by omega) (by simpa using r2) r3
      | none =>
        subst hc0; subst hn0
        obtain ⟨v', w', r1, r2, r3, _⟩ := run_append_own (P := P) w w.heap.size t o.type e I z 1 bytes ht hI hz hsz hby hzs (by omega) (.slice none 0 0) 0 [] (World.ownsRow_nil w _ e 1) ⟨bx, offx, none⟩ m capx us (by omega) h9' hones (by omega) hb (Nat.le_refl _)
        exact fin v' w' [] us (by rw [hargs, r1]; rfl) (by simp only [VL]) h8 (by omega) (by simpa using r2) r3
    | some b =>
      rw [hb'] at h5
      simp only at h5
      obtain ⟨rfl, h10, h11⟩ := h5
      obtain ⟨cs, T, e1, e2, e3, e4⟩ := own_cells hw hp h1 hb'
      have hcl : l.length ≤ cs.toList.length := e3.length
      simp only [Array.length_toList] at hcl
      by_cases hroom : n + m ≤ cap
      · -- in place
        have hspan : n + m ≤ cs.size := by
          have : cap ≤ cap * (mm.es + 1) := Nat.le_mul_of_pos_right _ (by omega)
          omega
        have hst := run_storeCells (P := P) (w := w) (b := b) (T := T) us n 0 cs e1 (by omega) hones
        have hne : us ≠ [] := fun e => by subst e; simp at hul; omega
        rw [if_neg hne] at hst
        simp only [Nat.add_zero] at hst
        have hfc : (Builtin.firstCells 1 m (.slice (some ⟨bx, offx, none⟩) m capx)).run P w = .ok us.toArray w := by
          have := run_firstCells_some (P := P) w 1 m ⟨bx, offx, none⟩ m capx us (by omega) h9'
          simpa using this
        have hrun : (execOp a.eval o).run P w = .ok (.value (.slice (some ⟨b, 0, none⟩) (n + m) cap)) (recell w b (AM.overlay cs.toList n us).toArray T) := by
          rw [hargs]
          simp [Builtin.append_, hu, sizeOf, typeInfo, hI, hsz, Builtin.lenOf, hroom, hfc, Addr.add_mk, hst]
        have hsz' : (AM.overlay cs.toList n us).toArray.size = cs.size := by
          simp only [List.size_toArray, AM.overlay, List.length_append, List.length_take, List.length_drop, Array.length_toList]
          omega
        have hvp : VP S μ (l ++ ys) (AM.overlay cs.toList n us) := by
          unfold AM.overlay
          rw [List.append_assoc]
          refine VP.app ?_ ?_
          · rw [← hl]; exact e3.vl_take
          · have := VP.app h8 (l' := []) (vs' := cs.toList.drop (n + us.length)) (by simp only [VP])
            simpa using this
        have hw1 := hw.put hp h1 hb' e1 hsz' (by simpa using hvp)
        obtain ⟨q1, q2⟩ := hw1.bump (p := p) (ver := ver) (l := l ++ ys) (m := mm) (by simp [hpl]) h1
        rw [List.set_set] at q1
        unfold Oper.wp
        rw [hrun]
        refine hnx S _ _ _ _ _ (SExt.refl S) hK ⟨⟨hi.fr.ext, ?_, ?_, ?_, by simpa [recell] using hi.fr.size, hi.fr.os, hi.fr.tape, hi.fr.output, hi.fr.sf⟩, q1, ?_, by rw [put_size]; exact hi.tsz, by rw [put_defers]; exact hi.dfr⟩
        · exact hi.fr.le.trans (B' := w0.heap.size) (MuLe.set h1 (by simp only; omega) fun b hb => .inl hb) (Nat.le_refl _)
        · intro i m1 b1 hm1 hb1
          by_cases e : p = i
          · subst e; simp [hml] at hm1; subst hm1; exact hi.fr.new p mm b1 h1 hb1
          · rw [List.getElem?_set_ne e] at hm1; exact hi.fr.new i m1 b1 hm1 hb1
        · intro b1 hb1 hno
          have hne : b ≠ b1 := by
            intro e
            subst e
            rcases hi.fr.new p mm b h1 hb' with ⟨m0, q1, q2⟩ | q
            · exact hno p m0 q1 q2
            · omega
          rw [recell_ne hne]
          exact hi.fr.keep b1 hb1 hno
        · refine (hi.ci.mono (SExt.refl S) q2).put (fun d hd' => by rw [hi.tsz]; exact dstLt_spec hd d hd') ?_
          simp only [V]
          refine ⟨_, _, _, by simp [hml]; rfl, Nat.le_refl _, rfl, fun _ => ?_⟩
          simp only [hb']
          exact ⟨trivial, hroom, h11⟩
      · obtain ⟨v', w', r1, r2, r3⟩ := run_append_arg_grows (P := P) w t o.type e I z 1 bytes ht hI hz hsz hby hzs (by omega) ⟨b, 0, none⟩ n cap (cs.toList.take l.length) (by simp; omega) (fun j u hj => by
            have hlt := lt_of_getElem? hj
            simp only [List.length_take] at hlt
            rw [List.getElem?_take, if_pos (by omega)] at hj
            rw [Addr.add_mk]
            simp only [World.cell?, e1, Nat.zero_add]
            simpa using hj) ⟨bx, offx, none⟩ m capx us (by omega) h9' (by omega) (by omega) hb
        exact fin v' w' _ us (by rw [hargs, r1]; rfl) e3.vl_take h8 (by omega) r2 r3
end
end Go.AM
