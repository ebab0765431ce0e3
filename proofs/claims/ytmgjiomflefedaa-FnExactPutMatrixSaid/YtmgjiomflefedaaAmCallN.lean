/- The abstract layer: calls that hand back new own objects, in whatever order; small conversions. -/
import Derived.Test.YtmgjiomflefedaaAmPrint
namespace Go.AM
section
variable {P : Program} {o : Oper} {τ : List (Nat × AV)} {Γ : List Ob}

theorem LOp.eqb {b b' : Bool} (h : LOp P o τ (.b b)) (e : b = b') : LOp P o τ (.b b') := e ▸ h
theorem TOp.eqb {b b' : Bool} {fs : List (Nat × List AV)} (h : TOp P o τ Γ (.b b) fs) (e : b = b') : TOp P o τ Γ (.b b') fs := e ▸ h

/-- The names that new objects are given, each with the version that is up. -/
def newNames (ns : List Nat) (Γ : List Ob) : List (Nat × Nat) := ns.map fun p => (p, match Γ[p]? with | some g => g.ver + 1 | none => 0)

theorem TOp.new_core {S : Snap} {μ : List Mu} {Γ2 : List Ob} {w : World} (hw : WI S μ Γ2 w) {S' : Snap} {μ' : List Mu} {w' : World} {ls : List (List AV)} {ns : List Nat}
    (hfr : FrI S [] w S' μ' w') (hw' : WI S' μ' (ls.map fun l => ⟨0, some l⟩) w') (hl0 : ls.all (AV.lts 0) = true) (hlen : ns.length = ls.length) (hnd : ns.Nodup) (hns : ∀ p ∈ ns, ∃ ver, Γ2[p]? = some ⟨ver, none⟩)
    {Sx : Snap} (hx : SExt S Sx) (hxf : SFresh w.heap.size S Sx) (hxs : SnapOK Sx w') (hxS : (∀ b, Sx b = none ∨ Sx b = S' b)) (hVP : ∀ l ∈ ls, ∀ vs, VP S' [] l vs → VP Sx [] l vs) :
    ∃ μ'', MuStep w.heap.size (ns.zip ls) μ μ'' ∧ WI Sx μ'' (fillOb Γ2 (ns.zip ls)) w' ∧ ∀ (i : Nat) (m' : Mu), μ'[i]? = some m' → Shift (sigma (newNames ns Γ2) i).2 (some m') μ''[(sigma (newNames ns Γ2) i).1]? := by
  have hg := hfr.toGrow
  have hl1 : μ'.length = ls.length := by rw [hw'.len]; simp
  have hfst : ((ns.zip ls).map (·.1)) = ns := List.map_fst_zip (by omega)
  -- the new entries
  let μ'' : List Mu := (ns.zip μ').foldl (fun μ p => μ.set p.1 { p.2 with ver := p.2.ver + (match Γ2[p.1]? with | some g => g.ver + 1 | none => 0) }) μ
  have hzip : ((ns.zip μ').map fun p => p.1) = ns := List.map_fst_zip (by omega)
  have hlt : ∀ p ∈ ns, p < μ.length := by
    intro p hp
    obtain ⟨ver, h⟩ := hns p hp
    rw [hw.len]; exact lt_of_getElem? h
  have hat : ∀ (i p : Nat) (m' : Mu), ns[i]? = some p → μ'[i]? = some m' → μ''[p]? = some { m' with ver := m'.ver + (match Γ2[p]? with | some g => g.ver + 1 | none => 0) } := by
    intro i p m' hp hm'
    have hz : (ns.zip μ')[i]? = some (p, m') := by rw [List.getElem?_zip_eq_some]; exact ⟨hp, hm'⟩
    exact foldl_set_at (f := fun p : Nat × Mu => p.1) (g := fun p => ({ p.2 with ver := p.2.ver + (match Γ2[p.1]? with | some g => g.ver + 1 | none => 0) } : Mu)) (by rw [hzip]; exact hnd) hz (hlt p (List.mem_of_getElem? hp))
  have hnot : ∀ i : Nat, i ∉ ns → μ''[i]? = μ[i]? := by
    intro i hi
    exact foldl_set_ne fun p hp e => hi (by rw [← e]; exact (List.of_mem_zip hp).1)
  have hmver : ∀ (i : Nat) (m' : Mu), μ'[i]? = some m' → m'.ver = 0 := by
    intro i m' hm'
    obtain ⟨l, hl⟩ := getElem?_of_lt (l := ls) (i := i) (by rw [← hl1]; exact lt_of_getElem? hm')
    exact hw'.ver i ⟨0, some l⟩ m' (by rw [List.getElem?_map, hl]; rfl) hm'
  have hidx : ∀ p, p ∈ ns → ∃ i, ns[i]? = some p := fun p hp => by
    obtain ⟨i, hi, e⟩ := List.mem_iff_getElem.1 hp
    exact ⟨i, by rw [List.getElem?_eq_getElem hi, e]⟩
  have hμ'at : ∀ (i p : Nat), ns[i]? = some p → ∃ m', μ'[i]? = some m' := fun i p hp => getElem?_of_lt (by rw [hl1, ← hlen]; exact lt_of_getElem? hp)
  have hnewblk : ∀ (i : Nat) (m' : Mu) (b : Nat), μ'[i]? = some m' → m'.blk = some b → w.heap.size ≤ b := by
    intro i m' b hm' hb
    rcases hfr.new i m' b hm' hb with ⟨m0, h0, _⟩ | h
    · simp at h0
    · exact h
  have hM : MuLe w.heap.size μ μ'' := by
    intro i m hm
    by_cases hi : i ∈ ns
    · obtain ⟨j, hj⟩ := hidx i hi
      obtain ⟨m', hm'⟩ := hμ'at j i hj
      obtain ⟨ver, hv⟩ := hns i hi
      have := hw.ver i _ m hv hm
      refine ⟨_, hat j i m' hj hm', ?_⟩
      simp only [hv]
      replace this : m.ver = ver := this
      exact ⟨by show m.ver ≤ m'.ver + (ver + 1); omega, fun e => by replace e : m'.ver + (ver + 1) = m.ver := e; omega, fun b hb => .inr (hnewblk j m' b hm' hb)⟩
    · exact ⟨m, by rw [hnot i hi]; exact hm, Nat.le_refl _, fun _ => rfl, fun _ hb => .inl hb⟩
  refine ⟨μ'', ⟨hM, fun i hi => hnot i fun hin => ?_, fun i m b hm hb => ?_⟩, ?_, ?_⟩
  · obtain ⟨j, hj⟩ := hidx i hin
    obtain ⟨l, hl⟩ := getElem?_of_lt (l := ls) (i := j) (by rw [← hlen]; exact lt_of_getElem? hj)
    exact hi (i, l) (List.mem_of_getElem? (i := j) (by rw [List.getElem?_zip_eq_some]; exact ⟨hj, hl⟩)) rfl
  · by_cases hi : i ∈ ns
    · obtain ⟨j, hj⟩ := hidx i hi
      obtain ⟨m', hm'⟩ := hμ'at j i hj
      rw [hat j i m' hj hm'] at hm
      simp at hm; subst hm
      exact .inr (hnewblk j m' b hm' hb)
    · rw [hnot i hi] at hm; exact .inl hm
  · have hstay : ∀ (i ver : Nat) (l : List AV) (m : Mu) (b : Nat), Γ2[i]? = some ⟨ver, some l⟩ → μ[i]? = some m → m.blk = some b → b < w.heap.size ∧ w'.heap[b]? = w.heap[b]? ∧ Sx b = none := by
      intro i ver l m b hgi hm hb
      obtain ⟨cs, T, e1, e2, e3, e4⟩ := own_cells hw hgi hm hb
      have hlt := (Array.getElem?_eq_some_iff.1 e1).1
      refine ⟨hlt, hg.block b hlt, ?_⟩
      cases hs : Sx b with
      | none => rfl
      | some c =>
        rcases hxf b c hs with h | h
        · rw [e4] at h; cases h
        · omega
    have hfillat : ∀ (j p : Nat) (l : List AV) (ver : Nat), ns[j]? = some p → ls[j]? = some l → Γ2[p]? = some ⟨ver, none⟩ → (fillOb Γ2 (ns.zip ls))[p]? = some ⟨ver + 1, some l⟩ := by
      intro j p l ver hp hl hv
      have := fillOb_at (Γ := Γ2) (f := (p, l)) (by rw [hfst]; exact hnd) (List.mem_of_getElem? (i := j) (by rw [List.getElem?_zip_eq_some]; exact ⟨hp, hl⟩))
      simpa [hv] using this
    have hfillne : ∀ i, i ∉ ns → (fillOb Γ2 (ns.zip ls))[i]? = Γ2[i]? := fun i hi => fillOb_ne fun f hf e => hi (by rw [← e]; exact (List.of_mem_zip hf).1)
    have hlat : ∀ (j p : Nat), ns[j]? = some p → ∃ l, ls[j]? = some l := fun j p hp => getElem?_of_lt (by rw [← hlen]; exact lt_of_getElem? hp)
    refine ⟨hxs, ?_, ?_, ?_, ?_⟩
    · rw [fillOb_length, ← hw.len]; exact foldl_set_length
    · intro i g m hgi hm
      by_cases hi : i ∈ ns
      · obtain ⟨j, hj⟩ := hidx i hi
        obtain ⟨m', hm'⟩ := hμ'at j i hj
        obtain ⟨l, hl⟩ := hlat j i hj
        obtain ⟨ver, hv⟩ := hns i hi
        rw [hat j i m' hj hm'] at hm
        rw [hfillat j i l ver hj hl hv] at hgi
        simp only [hv, Option.some.injEq] at hm hgi
        subst hm; subst hgi
        have := hmver j m' hm'
        show m'.ver + (ver + 1) = ver + 1; omega
      · rw [hnot i hi] at hm; rw [hfillne i hi] at hgi; exact hw.ver i g m hgi hm
    · intro i ver l m hgi hm
      by_cases hi : i ∈ ns
      · obtain ⟨j, hj⟩ := hidx i hi
        obtain ⟨m', hm'⟩ := hμ'at j i hj
        obtain ⟨l', hl'⟩ := hlat j i hj
        obtain ⟨ver', hv⟩ := hns i hi
        rw [hat j i m' hj hm'] at hm
        rw [hfillat j i l' ver' hj hl' hv] at hgi
        simp only [Option.some.injEq] at hm hgi
        subst hm
        injection hgi with _ h2
        simp only [Option.some.injEq] at h2
        subst h2
        have h0 := hw'.own j 0 l' m' (by rw [List.getElem?_map, hl']; rfl) hm'
        have hlts : AV.lts 0 l' = true := List.all_eq_true.1 hl0 l' (List.mem_of_getElem? hl')
        unfold OwnAt at h0 ⊢
        simp only
        split at h0
        · exact h0
        · rename_i b hb
          obtain ⟨k1, cs, T, k2, k3, k4⟩ := h0
          refine ⟨?_, cs, T, k2, k3, ?_⟩
          · rcases hxS b with h | h
            · exact h
            · rw [h]; exact k1
          · have h1 : VP S' [] l' cs.toList := by
              have := k4
              exact VP.unren (σ := fun i => (i, 0)) (k := 0) (μ := μ') (fun i hi => by omega) l' _ hlts (by rw [AV.rens_of_lt0 _ _ hlts]; exact this)
            have h2 := hVP l' (List.mem_of_getElem? hl') _ h1
            exact VP.unren (σ := fun i => (i, 0)) (k := 0) (μ := []) (fun i hi => by omega) l' _ hlts (by rw [AV.rens_of_lt0 _ _ hlts]; exact h2)
      · rw [hnot i hi] at hm; rw [hfillne i hi] at hgi
        have h0 := hw.own i ver l m hgi hm
        unfold OwnAt at h0 ⊢
        split at h0
        · exact h0
        · rename_i b hb
          obtain ⟨k1, k2, k3⟩ := hstay i ver l m b hgi hm hb
          obtain ⟨_, cs, T, e1, e2, e3⟩ := h0
          exact ⟨k3, cs, T, k2.trans e1, e2, VP.mono hx hM l _ e3⟩
    · intro i i' g g' m m' b hgi hs hgi' hs' hm hm' hb hb'
      by_cases hi : i ∈ ns
      · obtain ⟨j, hj⟩ := hidx i hi
        obtain ⟨m1, hm1⟩ := hμ'at j i hj
        rw [hat j i m1 hj hm1] at hm; simp only [Option.some.injEq] at hm; subst hm
        have k1 := hnewblk j m1 b hm1 hb
        by_cases hi' : i' ∈ ns
        · obtain ⟨j', hj'⟩ := hidx i' hi'
          obtain ⟨m1', hm1'⟩ := hμ'at j' i' hj'
          rw [hat j' i' m1' hj' hm1'] at hm'; simp only [Option.some.injEq] at hm'; subst hm'
          obtain ⟨l1, hl1'⟩ := hlat j i hj
          obtain ⟨l2, hl2'⟩ := hlat j' i' hj'
          have : j = j' := hw'.sep j j' ⟨0, some l1⟩ ⟨0, some l2⟩ m1 m1' b (by rw [List.getElem?_map, hl1']; rfl) rfl (by rw [List.getElem?_map, hl2']; rfl) rfl hm1 hm1' hb hb'
          subst this
          rw [hj] at hj'; simpa using hj'
        · rw [hnot i' hi'] at hm'; rw [hfillne i' hi'] at hgi'
          obtain ⟨gv, gc⟩ := g'
          obtain ⟨l, rfl⟩ := Option.isSome_iff_exists.1 hs'
          have := (hstay i' gv l m' b hgi' hm' hb').1
          omega
      · rw [hnot i hi] at hm; rw [hfillne i hi] at hgi
        obtain ⟨gv, gc⟩ := g
        obtain ⟨l, rfl⟩ := Option.isSome_iff_exists.1 hs
        have k1 := (hstay i gv l m b hgi hm hb).1
        by_cases hi' : i' ∈ ns
        · obtain ⟨j', hj'⟩ := hidx i' hi'
          obtain ⟨m1', hm1'⟩ := hμ'at j' i' hj'
          rw [hat j' i' m1' hj' hm1'] at hm'; simp only [Option.some.injEq] at hm'; subst hm'
          have := hnewblk j' m1' b hm1' hb'
          omega
        · rw [hnot i' hi'] at hm'; rw [hfillne i' hi'] at hgi'
          exact hw.sep i i' _ g' m m' b hgi hs hgi' hs' hm hm' hb hb'
  · intro i m' hm'
    obtain ⟨p, hp⟩ : ∃ p, ns[i]? = some p := getElem?_of_lt (by rw [hlen, ← hl1]; exact lt_of_getElem? hm')
    obtain ⟨ver, hv⟩ := hns p (List.mem_of_getElem? hp)
    have : sigma (newNames ns Γ2) i = (p, ver + 1) := by simp [sigma, List.getD, newNames, hp, hv]
    rw [this, hat i p m' hp hm', hv]
    exact ⟨by simp, by simp⟩

theorem newNames_live {Γ Γ2 : List Ob} {ns : List Nat} {ls : List (List AV)} (hlen : ns.length = ls.length) (hd : ∀ f ∈ ns.zip ls, Γ2[f.1]? = Γ[f.1]?) : newNames ns Γ2 = newNames ns Γ := by
  apply List.map_congr_left
  intro p hp
  obtain ⟨i, hi, e⟩ := List.mem_iff_getElem.1 hp
  have : (p, ls[i]'(by omega)) ∈ ns.zip ls := List.mem_of_getElem? (i := i) (by rw [List.getElem?_zip_eq_some]; exact ⟨by rw [List.getElem?_eq_getElem hi, e], List.getElem?_eq_getElem (by omega)⟩)
  rw [hd _ this]

/-- A call that hands back new own objects (ns: their names); its arguments hang on no names. -/
theorem TOp.callN {f : FuncId} {A : List AV} {r : AV} {ls : List (List AV)} (ns : List Nat) (hc : CallAs P o τ f A) (hA : AV.lts 0 A = true) (hev : Ev P f A [] r (ls.map fun l => ⟨0, some l⟩)) (hl0 : ls.all (AV.lts 0) = true) (hlen : ns.length = ls.length) (hnd : ns.Nodup) (hns : ∀ p ∈ ns, ∃ ver, Γ[p]? = some ⟨ver, none⟩) :
    TOp P o τ Γ (r.ren (sigma (newNames ns Γ))) (ns.zip ls) := by
  intro S μ Γ2 a w _ hd hw h next Q hn
  obtain ⟨vs, hrun, hvs⟩ := hc S μ a w h
  unfold Oper.wp
  rw [hrun, Oper.upon_enter]
  refine (hev S [] w vs ⟨hw.snap, rfl, by simp, by simp, by simp⟩ (VL.pure hA hvs)).mono ?_
  rintro e w' ⟨v, S', μ', rfl, hv, hw', hfr⟩
  have hns2 : ∀ p ∈ ns, ∃ ver, Γ2[p]? = some ⟨ver, none⟩ := by
    intro p hp
    obtain ⟨i, hi, e⟩ := List.mem_iff_getElem.1 hp
    have : (p, ls[i]'(by omega)) ∈ ns.zip ls := List.mem_of_getElem? (i := i) (by rw [List.getElem?_zip_eq_some]; exact ⟨by rw [List.getElem?_eq_getElem hi, e], List.getElem?_eq_getElem (by omega)⟩)
    rw [hd _ this]; exact hns p hp
  obtain ⟨μ'', h1, h2, h3⟩ := TOp.new_core hw hfr hw' hl0 hlen hnd hns2 hfr.ext hfr.sf hw'.snap (fun b => .inr rfl) (fun _ _ _ h => h)
  rw [newNames_live hlen hd] at h3
  exact hn S' μ'' v w' hfr.ext hfr.sf h1 h2 (V.ren h3 r v hv) hfr.toGrow
/-- The same with own objects lent to the call: nothing that comes back hangs on what is settled. -/
theorem TOp.callBN {f : FuncId} {A A' : List AV} {r : AV} {ls : List (List AV)} (ns : List Nat) (hc : CallAs P o τ f A) (hA : Bors Γ A A') (hs : r.nos = true) (hev : Ev P f A' [] r (ls.map fun l => ⟨0, some l⟩)) (hl0 : ls.all (AV.lts 0) = true) (hls : ls.all AV.noss = true) (hlen : ns.length = ls.length) (hnd : ns.Nodup) (hns : ∀ p ∈ ns, ∃ ver, Γ[p]? = some ⟨ver, none⟩) :
    TOp P o τ Γ (r.ren (sigma (newNames ns Γ))) (ns.zip ls) := by
  intro S μ Γ2 a w hL hd hw h next Q hn
  obtain ⟨vs, hrun, hvs⟩ := hc S μ a w h
  unfold Oper.wp
  rw [hrun, Oper.upon_enter]
  have hle := lend_lent hw
  refine (hev (lend S μ Γ2 w) [] w vs (lend_snap hw) (hA S μ Γ2 w _ vs.toList hL hw hle hvs)).mono ?_
  rintro e w' ⟨v, S', μ', rfl, hv, hw', hfr⟩
  have hg := hfr.toGrow
  have hns2 : ∀ p ∈ ns, ∃ ver, Γ2[p]? = some ⟨ver, none⟩ := by
    intro p hp
    obtain ⟨i, hi, e⟩ := List.mem_iff_getElem.1 hp
    have : (p, ls[i]'(by omega)) ∈ ns.zip ls := List.mem_of_getElem? (i := i) (by rw [List.getElem?_zip_eq_some]; exact ⟨by rw [List.getElem?_eq_getElem hi, e], List.getElem?_eq_getElem (by omega)⟩)
    rw [hd _ this]; exact hns p hp
  -- back to what was settled ahead of the call
  have hw0 : WI S' μ' (ls.map fun l => (⟨0, some l⟩ : Ob)) w' := hw'
  have hfr0 : FrI S [] w S' μ' w' ∨ True := .inr trivial
  have hfrS : FrI S [] w (fun b => if w.heap.size ≤ b then none else S b) μ' w' := by
    refine ⟨fun b c hb => ?_, hfr.le, hfr.new, hfr.keep, hfr.size, hfr.os, hfr.tape, hfr.output, fun b c hb => ?_⟩
    · have := snap_lt hw.snap hb
      show (if w.heap.size ≤ b then none else S b) = some c
      rw [if_neg (by omega)]; exact hb
    · replace hb : (if w.heap.size ≤ b then none else S b) = some c := hb
      split at hb
      · cases hb
      · exact .inl hb
  have hSe : (fun b => if w.heap.size ≤ b then none else S b) = S := by
    funext b
    by_cases hb : w.heap.size ≤ b
    · rw [if_pos hb]
      cases hs : S b with
      | none => rfl
      | some c => have := snap_lt hw.snap hs; omega
    · rw [if_neg hb]
  rw [hSe] at hfrS
  have hwS : WI S μ' (ls.map fun l => (⟨0, some l⟩ : Ob)) w' := by
    refine ⟨fun b c hb => (hw.snap b c hb).elim fun T hT => hT.elim fun m hm => ⟨T, m, (hg.block b (snap_lt hw.snap hb)).trans hm⟩, hw'.len, hw'.ver, fun p ver l m hp hm => ?_, hw'.sep⟩
    have h0 := hw'.own p ver l m hp hm
    obtain ⟨l', hl', e⟩ : ∃ l', ls[p]? = some l' ∧ l' = l := by
      rw [List.getElem?_map] at hp
      cases hq : ls[p]? with
      | none => rw [hq] at hp; simp at hp
      | some l' => rw [hq] at hp; simp at hp; exact ⟨l', rfl, hp.2⟩
    subst e
    have hno : AV.noss l' = true := List.all_eq_true.1 hls l' (List.mem_of_getElem? hl')
    unfold OwnAt at h0 ⊢
    split at h0
    · exact h0
    · rename_i b hb
      obtain ⟨k1, cs, T, k2, k3, k4⟩ := h0
      refine ⟨?_, cs, T, k2, k3, VP.noS hno k4⟩
      cases hsb : S b with
      | none => rfl
      | some c =>
        have := (hle.ext.trans hfr.ext) b c hsb
        rw [k1] at this; cases this
  obtain ⟨μ'', h1, h2, h3⟩ := TOp.new_core hw hfrS hwS hl0 hlen hnd hns2 (SExt.refl S) (SFresh.refl _ S) hwS.snap (fun b => .inr rfl) (fun _ _ _ h => h)
  rw [newNames_live hlen hd] at h3
  exact hn S μ'' v w' (SExt.refl S) (SFresh.refl _ S) h1 h2 (V.ren h3 r v (V.noS r v hs hv)) hg
end
end Go.AM
