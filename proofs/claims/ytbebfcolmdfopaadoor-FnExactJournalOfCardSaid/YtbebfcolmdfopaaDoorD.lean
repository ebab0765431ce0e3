/- The law FnExactJournalOf answers true for every readable input, and its arguments read afterwards as they did; no condition. -/
import Derived.ProofKit
import Derived.OpenShut
import Derived.LaidMore
import Derived.Lay
import Derived.SevenTiedAt
import Derived.Stop.Joined
import Derived.Lib.LaidTab
import Derived.Test.YtbebfcolmdfopaaDoorTie
import Derived.Test.YtbebfcolmdfopaaDoorCards
import Derived.Test.YtbebfcolmdfopaaDoorRows
import Derived.Test.YtbebfcolmdfopaaDoorP
namespace Go.Proofs.YtbebfcolmdfopaaDoor
open Go Go.AM Go.ChangeShapes Go.WideShapes Go.ChangeAt Go.RowKit
set_option maxRecDepth 20000
set_option maxHeartbeats 4000000
abbrev opG9 : List AV → Prop := fun l => ∃ x : ByteArray, x.size ≤ maxLen ∧ l = [.str x]
theorem op9 : Op1 Tryd.prog 9 opG9 := Op1.string pun9
abbrev opG22 : List AV → Prop := fun l => ∃ L : List ByteArray, ((∀ z ∈ L, z.size ≤ maxLen) ∧ L.length ≤ maxLen) ∧ l = [.sl L.length (L.map AV.str)]
theorem op22 : Op1 Tryd.prog 22 opG22 := Op1.slice (f := AV.str) (good := fun z => z.size ≤ maxLen) pun22 (by kernel_rfl) op9
theorem fnExactJournalOf_globs_var {W : World} {name : String} {g : Nat} {cs : Array Value} (hn : Tryd.prog.globalNamed name = some g) (hv : World.var? Tryd.prog W name = some cs) : snapF W g = some cs := by
  unfold World.var? at hv
  rw [hn, Option.bind_some] at hv
  unfold snapF
  cases hh : W.heap[g]? with
  | none => rw [hh] at hv; cases hv
  | some ob =>
    rw [hh] at hv
    cases ob with
    | cells cs' T m => exact hv
    | _ => cases hv
theorem fnExactJournalOf_globs {W : World} (h : laidMetH Tryd.prog Rows.fnExactJournalOfRow.laid W) : GlobsIn W := by
  rw [MakeChecks.laidMetH_plain _ _ _ (by kernel_rfl)] at h
  obtain ⟨ps, ⟨g0, t0, cs0, f0, p0, q0, hg0, ht0, hv0, hd0, ⟨g1, t1, cs1, f1, p1, q1, hg1, ht1, hv1, hd1, ⟨g2, t2, cs2, f2, p2, q2, hg2, ht2, hv2, hd2, _, _, _⟩, _⟩, _⟩, _, _⟩ := h
  have hn1 : Tryd.prog.globalNamed "internal/strconv.uint64pow10" = some 1 := by kernel_rfl
  obtain rfl := Option.some.inj (hn1.symm.trans hg2)
  obtain rfl := Option.some.inj ((show (Tryd.prog.globals[1]?).map (·.type) = some 59 by kernel_rfl).symm.trans ht2)
  have e1 := Go.Lib.cells_of_tab (zs := Go.Lib.pow10Tab) (k := .u64) (n := 20) Tryd.underlying59 Tryd.underlying50 (by kernel_rfl) (by kernel_rfl) hd2
  have c1 := fnExactJournalOf_globs_var hn1 hv2
  have hn3 : Tryd.prog.globalNamed "math/bits.deBruijn64tab" = some 3 := by kernel_rfl
  obtain rfl := Option.some.inj (hn3.symm.trans hg1)
  obtain rfl := Option.some.inj ((show (Tryd.prog.globals[3]?).map (·.type) = some 68 by kernel_rfl).symm.trans ht1)
  have e3 := Go.Lib.cells_of_tab (zs := deB64) (k := .u8) (n := 64) Tryd.underlying68 Tryd.underlying5 (by kernel_rfl) (by kernel_rfl) hd1
  have c3 := fnExactJournalOf_globs_var hn3 hv1
  refine ⟨fun p hp => ?_, fun g hg => ?_⟩
  · unfold globs at hp
    simp only [List.mem_cons, List.mem_nil_iff, or_false] at hp
    rcases hp with rfl | rfl
    · show snapF W 1 = some (Go.Lib.pow10Tab.map fun z => Value.int .u64 z).toArray
      rw [c1, ← e1]
    · show snapF W 3 = some (deB64.map fun z => Value.int .u8 z).toArray
      rw [c3, ← e3]
  · unfold globsI at hg
    cases hg
theorem fnExactJournalOf_own : ownKnob Tryd.prog.godebug = Option.none := by kernel_rfl
theorem fnExactJournalOf_laidOut : laidOutB Tryd.prog = true := by kernel_rfl
set_option maxRecDepth 100000 in
theorem fnExactJournalOf_lifted (os : Os) (started : os.Started) (H : Type) (enc : TypeId × Value → H) :
    ReturnsInHanded {} Tryd.checked os 3 .any (fun w args => (Rows.fnExactJournalOfSpec.pre enc Tryd.prog Tryd.f3 Rows.fnExactJournalOfRow.domain false w args ∧ laidMetH Tryd.prog Rows.fnExactJournalOfRow.laid w) ∧ sizedMet enc Tryd.prog Tryd.f3 (OpenSpec.ofChange Rows.fnExactJournalOfSpec) false w args) (Rows.fnExactJournalOfSpec.post enc Tryd.prog Tryd.f3 false true false false) := by
  refine returnsInHanded_of_change_and (C := Tryd.checked) (X := fun w _ => laidMetH Tryd.prog Rows.fnExactJournalOfRow.laid w) (fun _ _ _ hh h => h.of_heap hh) fnExactJournalOf_own started (by kernel_rfl) Tryd.func3
    (ChangeSpec.witness_shaped (enc := enc) (C := Tryd.checked) (os := os) (X := fun w _ => laidMetH Tryd.prog Rows.fnExactJournalOfRow.laid w) false (World.laidAll Tryd.prog os Rows.fnExactJournalOfRow.laid) #[(Go.Value.slice none 0 0)] 12 (World.laidAll_os _ _ _)
      (World.shaped_of_ZipB (by kernel_rfl) (by kernel_rfl)) (by kernel_rfl) (by kernel_rfl) (by kernel_rfl)
      (by rw [MakeChecks.laidMetH_plain _ _ _ (by kernel_rfl)]; exact laidMet_laidAll _ (by kernel_rfl) (by kernel_rfl))) ?_
  intro W base args ds gs before hval0 hW hcnd _ hLaid _
  have hval : ∀ (j : Nat) t v, Tryd.f3.params[j]? = some t → args[j]? = some v → Value.okWide Tryd.prog W .any base t v := hval0
  have hW' := hW
  obtain ⟨p, q, hA0, hV, rfl, hfz, hnd⟩ := hW
  have hA : DataW.TrodAll enc Tryd.prog W 0 (fun _ => true) true Tryd.f3.params.toList args.toList ds p := hA0
  rw [Tryd.params3] at hA hval
  have hG : GlobsIn W := fnExactJournalOf_globs hLaid
  have hA1 : DataW.TrodAll enc Tryd.prog W 0 (fun _ => true) true [22] args.toList ds p := hA
  obtain ⟨v0, vs0, d0, ds0, p0, q0, e0, rfl, rfl, h0, hA2⟩ := trodAll_cons hA1
  have eE : vs0 = [] ∧ ds0 = [] := by
    cases vs0 <;> cases ds0 <;> simp_all [DataW.TrodAll]
  obtain ⟨rfl, rfl⟩ := eE
  have hargs : args = #[v0] := by apply Array.ext'; simpa using e0
  subst hargs
  obtain ⟨rfl, rfl⟩ := trodVars_none hV
  obtain ⟨a0, w0, hv0⟩ := open_one hG (cells_slice pun22 (hval 0 22 v0 rfl rfl)) op22 h0
  refine (law_run (w_FnExactJournalOf_ok a0 true (w_FnExactJournalOf_true a0 w0.2 w0.1)) (VLc hv0 VLn)).mono fun e W' ⟨he, hb⟩ => ?_
  subst he
  exact ⟨_, rfl, law_post hW' rfl rfl rfl pun4 fnExactJournalOf_laidOut (by simp only [Tryd.params3]; decide +kernel) hb⟩
theorem fnExactJournalOf_holds : Rows.FnExactJournalOfSaid :=
  OpenClaim.holds_of_wide 3 Tryd.f3 rfl rfl rfl rfl rfl rfl rfl ⟨rfl, rfl, rfl, rfl, rfl⟩ rfl rfl rfl rfl rfl (by kernel_rfl) Tryd.func3 (by kernel_rfl)
    (of_decide_eq_true (by kernel_rfl)) (by unfold Func.isWrapper; first | (rw [if_pos (by decide +kernel)]; kernel_rfl) | (rw [if_neg (by decide +kernel)]; exact ⟨rfl, rfl⟩))
    (fun os started H enc _ => fnExactJournalOf_lifted os started H enc)
/-- The tied card. -/
theorem fnExactJournalOf_card_holds : Rows.FnExactJournalOfCardSaid :=
  Claim7.holds_tied_plain_at .later [] [.data, .data, .data] true (true, "752e6a27c541fd2a7603e72ec66abe56d27db093b9d69a461ab3cfc6ded69453") false
    fnExactJournalOf_holds (fun _ h => by cases h) (by kernel_rfl) (fun _ h => by cases h) fnExactJournalOf_row_tie rfl ⟨rfl, rfl⟩ (by kernel_rfl) rfl
    (fun f fn hf hfn => by
      obtain rfl : f = 3 := Option.some.inj ((show Tryd.prog.funcNamed "loop.example/g01327/laws.FnExactJournalOf" = some 3 by kernel_rfl).symm.trans hf) |>.symm
      obtain rfl : fn = Tryd.f3 := (Option.some.inj (Tryd.func3.symm.trans hfn)).symm
      exact ⟨by kernel_rfl, fun j t ht => by
        rw [Tryd.params3] at ht
        rcases j with _ | j
        · have h3 : t = 22 := by simpa using ht.symm
          subst h3
          exact (show Tryd.prog.wantsStandIn 22 = false by kernel_rfl)
        simp at ht⟩)
    (by kernel_rfl)
#print axioms fnExactJournalOf_card_holds
end Go.Proofs.YtbebfcolmdfopaaDoor
