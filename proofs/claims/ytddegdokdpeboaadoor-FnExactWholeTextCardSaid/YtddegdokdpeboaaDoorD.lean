/- The law FnExactWholeText answers true for every readable input, and its arguments read afterwards as they did; no condition. -/
import Derived.ProofKit
import Derived.OpenShut
import Derived.LaidMore
import Derived.Lay
import Derived.SevenTiedAt
import Derived.Stop.Joined
import Derived.Lib.LaidTab
import Derived.Test.YtddegdokdpeboaaDoorTie
import Derived.Test.YtddegdokdpeboaaDoorCards
import Derived.Test.YtddegdokdpeboaaDoorRows
import Derived.Test.YtddegdokdpeboaaDoorP
namespace Go.Proofs.YtddegdokdpeboaaDoor
open Go Go.AM Go.ChangeShapes Go.WideShapes Go.ChangeAt Go.RowKit
set_option maxRecDepth 20000
set_option maxHeartbeats 4000000
abbrev opG2 : List AV → Prop := fun l => ∃ n : Int, (Lit.int .i64 n).wf = true ∧ l = [.x (.int .i64 n)]
theorem op2 : Op1 Tryd.prog 2 opG2 := Op1.int pun2
abbrev opG25 : List AV → Prop := fun l => ∃ L : List Int, ((∀ z ∈ L, (Lit.int .i64 z).wf = true) ∧ L.length ≤ maxLen) ∧ l = [.sl L.length (L.map AV.i64)]
theorem op25 : Op1 Tryd.prog 25 opG25 := Op1.slice (f := AV.i64) (good := fun z => (Lit.int .i64 z).wf = true) pun25 (by kernel_rfl) op2
abbrev opG27 : List AV → Prop := GS [opG2, opG2, opG25]
theorem op27 : Op1 Tryd.prog 27 opG27 := Op1.struct pun27 (by kernel_rfl) ⟨by kernel_rfl, op2, ⟨by kernel_rfl, op2, ⟨by kernel_rfl, op25, trivial⟩⟩⟩
theorem fnExactWholeText_globs {W : World} (h : laidMetH Tryd.prog Rows.fnExactWholeTextRow.laid W) : GlobsIn W := by
  rw [MakeChecks.laidMetH_plain _ _ _ (by kernel_rfl)] at h
  obtain ⟨ps, ⟨g0, t0, cs0, f0, p0, q0, hg0, ht0, hv0, hd0, ⟨g1, t1, cs1, f1, p1, q1, hg1, ht1, hv1, hd1, ⟨g2, t2, cs2, f2, p2, q2, hg2, ht2, hv2, hd2, _, _⟩, _⟩, _⟩, _, _⟩ := h
  have hn : Tryd.prog.globalNamed "internal/strconv.uint64pow10" = some 1 := by kernel_rfl
  obtain rfl := Option.some.inj (hn.symm.trans hg2)
  obtain rfl := Option.some.inj ((show (Tryd.prog.globals[1]?).map (·.type) = some 156 by kernel_rfl).symm.trans ht2)
  have e := Go.Lib.cells_of_tab (zs := Go.Lib.pow10Tab) (k := .u64) (n := 20) Tryd.underlying156 Tryd.underlying137 (by kernel_rfl) (by kernel_rfl) hd2
  intro p hp
  have hp1 : p = (1, (Go.Lib.pow10Tab.map fun z => Value.int .u64 z).toArray) := by
    unfold globs at hp; exact List.mem_singleton.1 hp
  subst hp1
  unfold World.var? at hv2
  rw [hn, Option.bind_some] at hv2
  cases hh : W.heap[1]? with
  | none => rw [hh] at hv2; cases hv2
  | some ob =>
    rw [hh] at hv2
    cases ob with
    | cells cs T m =>
      have hv3 : some cs = some cs2 := hv2
      show snapF W 1 = _
      unfold snapF
      rw [hh]
      show some cs = some (Go.Lib.pow10Tab.map fun z => Value.int .u64 z).toArray
      rw [hv3, ← e]
    | _ => cases hv2
theorem fnExactWholeText_own : ownKnob Tryd.prog.godebug = Option.none := by kernel_rfl
theorem fnExactWholeText_laidOut : laidOutB Tryd.prog = true := by kernel_rfl
set_option maxRecDepth 100000 in
theorem fnExactWholeText_lifted (os : Os) (started : os.Started) (H : Type) (enc : TypeId × Value → H) :
    ReturnsInHanded {} Tryd.checked os 4 .any (fun w args => (Rows.fnExactWholeTextSpec.pre enc Tryd.prog Tryd.f4 Rows.fnExactWholeTextRow.domain false w args ∧ laidMetH Tryd.prog Rows.fnExactWholeTextRow.laid w) ∧ sizedMet enc Tryd.prog Tryd.f4 (OpenSpec.ofChange Rows.fnExactWholeTextSpec) false w args) (Rows.fnExactWholeTextSpec.post enc Tryd.prog Tryd.f4 false true false false) := by
  refine returnsInHanded_of_change_and (C := Tryd.checked) (X := fun w _ => laidMetH Tryd.prog Rows.fnExactWholeTextRow.laid w) (fun _ _ _ hh h => h.of_heap hh) fnExactWholeText_own started (by kernel_rfl) Tryd.func4
    (ChangeSpec.witness_shaped (enc := enc) (C := Tryd.checked) (os := os) (X := fun w _ => laidMetH Tryd.prog Rows.fnExactWholeTextRow.laid w) false (World.laidAll Tryd.prog os Rows.fnExactWholeTextRow.laid) #[(Go.Value.agg #[(Go.Value.int Go.IntKind.i64 0), (Go.Value.int Go.IntKind.i64 0), (Go.Value.slice none 0 0)])] 12 (World.laidAll_os _ _ _)
      (World.shaped_of_ZipB (by kernel_rfl) (by kernel_rfl)) (by kernel_rfl) (by kernel_rfl) (by kernel_rfl)
      (by rw [MakeChecks.laidMetH_plain _ _ _ (by kernel_rfl)]; exact laidMet_laidAll _ (by kernel_rfl) (by kernel_rfl))) ?_
  intro W base args ds gs before hval0 hW hcnd _ hLaid _
  have hval : ∀ (j : Nat) t v, Tryd.f4.params[j]? = some t → args[j]? = some v → Value.okWide Tryd.prog W .any base t v := hval0
  have hW' := hW
  obtain ⟨p, q, hA0, hV, rfl, hfz, hnd⟩ := hW
  have hA : DataW.TrodAll enc Tryd.prog W 0 (fun _ => true) true Tryd.f4.params.toList args.toList ds p := hA0
  rw [Tryd.params4] at hA hval
  have hG : GlobsIn W := fnExactWholeText_globs hLaid
  have hA1 : DataW.TrodAll enc Tryd.prog W 0 (fun _ => true) true [27] args.toList ds p := hA
  obtain ⟨v0, vs0, d0, ds0, p0, q0, e0, rfl, rfl, h0, hA2⟩ := trodAll_cons hA1
  have eE : vs0 = [] ∧ ds0 = [] := by
    cases vs0 <;> cases ds0 <;> simp_all [DataW.TrodAll]
  obtain ⟨rfl, rfl⟩ := eE
  have hargs : args = #[v0] := by apply Array.ext'; simpa using e0
  subst hargs
  obtain ⟨rfl, rfl⟩ := trodVars_none hV
  obtain ⟨_, ⟨_, _, ⟨a0, w0, rfl⟩, ⟨_, _, ⟨a1, w1, rfl⟩, ⟨_, _, ⟨a2, w2, rfl⟩, rfl, rfl⟩, rfl⟩, rfl⟩, hv0⟩ := open_struct hG pun27 op27 (hval 0 27 v0 rfl rfl) h0
  refine (law_run (w_FnExactWholeText_ok a0 a1 a2 true (w_FnExactWholeText_true a0 a1 a2 w2.2)) (VLc hv0 VLn)).mono fun e W' ⟨he, hb⟩ => ?_
  subst he
  exact ⟨_, rfl, law_post hW' rfl rfl rfl pun4 fnExactWholeText_laidOut (by simp only [Tryd.params4]; decide +kernel) hb⟩
theorem fnExactWholeText_holds : Rows.FnExactWholeTextSaid :=
  OpenClaim.holds_of_wide 4 Tryd.f4 rfl rfl rfl rfl rfl rfl rfl ⟨rfl, rfl, rfl, rfl, rfl⟩ rfl rfl rfl rfl rfl (by kernel_rfl) Tryd.func4 (by kernel_rfl)
    (of_decide_eq_true (by kernel_rfl)) (by unfold Func.isWrapper; first | (rw [if_pos (by decide +kernel)]; kernel_rfl) | (rw [if_neg (by decide +kernel)]; exact ⟨rfl, rfl⟩))
    (fun os started H enc _ => fnExactWholeText_lifted os started H enc)
/-- The tied card. -/
theorem fnExactWholeText_card_holds : Rows.FnExactWholeTextCardSaid :=
  Claim7.holds_tied_plain_at .later [] [.data, .data, .data] true (true, "eff2a50b6427b8ec6165dfa502e61cc6a02ada03ca993dddda18d89d32808618") false
    fnExactWholeText_holds (fun _ h => by cases h) (by kernel_rfl) (fun _ h => by cases h) fnExactWholeText_row_tie rfl ⟨rfl, rfl⟩ (by kernel_rfl) rfl
    (fun f fn hf hfn => by
      obtain rfl : f = 4 := Option.some.inj ((show Tryd.prog.funcNamed "loop.example/g01327/laws.FnExactWholeText" = some 4 by kernel_rfl).symm.trans hf) |>.symm
      obtain rfl : fn = Tryd.f4 := (Option.some.inj (Tryd.func4.symm.trans hfn)).symm
      exact ⟨by kernel_rfl, fun j t ht => by
        rw [Tryd.params4] at ht
        rcases j with _ | j
        · have h3 : t = 27 := by simpa using ht.symm
          subst h3
          exact (show Tryd.prog.wantsStandIn 27 = false by kernel_rfl)
        · simp at ht⟩)
    (by kernel_rfl)
#print axioms fnExactWholeText_card_holds
end Go.Proofs.YtddegdokdpeboaaDoor
