/- The law FnExactMatrixText answers true for every readable input, and its arguments read afterwards as they did; no condition. -/
import Derived.ProofKit
import Derived.OpenShut
import Derived.LaidMore
import Derived.Lay
import Derived.SevenTiedAt
import Derived.Stop.Joined
import Derived.Lib.LaidTab
import Derived.Test.YtddegdokdpeboaaDoorTie
import Derived.Test.YtddegdokdpeboaaDoorCards
import Derived.Test.YtddegdokdpeboaaDoorRows
import Derived.Test.YtddegdokdpeboaaDoorP
namespace Go.Proofs.YtddegdokdpeboaaDoor
open Go Go.AM Go.ChangeShapes Go.WideShapes Go.ChangeAt Go.RowKit
set_option maxRecDepth 20000
set_option maxHeartbeats 4000000
abbrev opG2 : List AV → Prop := fun l => ∃ n : Int, (Lit.int .i64 n).wf = true ∧ l = [.x (.int .i64 n)]
theorem op2 : Op1 Tryd.prog 2 opG2 := Op1.int pun2
abbrev opG115 : List AV → Prop := fun l => ∃ c : F, FOk .f32 c ∧ l = [.f .f32 c]
theorem op115 : Op1 Tryd.prog 115 opG115 := Op1.float pun115
abbrev opG43 : List AV → Prop := fun l => ∃ L : List F, ((∀ z ∈ L, FOk .f32 z) ∧ L.length ≤ maxLen) ∧ l = [.sl L.length (L.map AV.f32)]
theorem op43 : Op1 Tryd.prog 43 opG43 := Op1.slice (f := AV.f32) (good := fun z => FOk .f32 z) pun43 (by kernel_rfl) op115
abbrev opG53 : List AV → Prop := GS [opG2, opG2, opG43]
theorem op53 : Op1 Tryd.prog 53 opG53 := Op1.struct pun53 (by kernel_rfl) ⟨by kernel_rfl, op2, ⟨by kernel_rfl, op2, ⟨by kernel_rfl, op43, trivial⟩⟩⟩
theorem fnExactMatrixText_globs_var {W : World} {name : String} {g : Nat} {cs : Array Value} (hn : Tryd.prog.globalNamed name = some g) (hv : World.var? Tryd.prog W name = some cs) : snapF W g = some cs := by
  unfold World.var? at hv
  rw [hn, Option.bind_some] at hv
  unfold snapF
  cases hh : W.heap[g]? with
  | none => rw [hh] at hv; cases hv
  | some ob =>
    rw [hh] at hv
    cases ob with
    | cells cs' T m => exact hv
    | _ => cases hv
theorem fnExactMatrixText_globs {W : World} (h : laidMetH Tryd.prog Rows.fnExactMatrixTextRow.laid W) : GlobsIn W := by
  rw [MakeChecks.laidMetH_plain _ _ _ (by kernel_rfl)] at h
  obtain ⟨ps, ⟨g0, t0, cs0, f0, p0, q0, hg0, ht0, hv0, hd0, ⟨g1, t1, cs1, f1, p1, q1, hg1, ht1, hv1, hd1, ⟨g2, t2, cs2, f2, p2, q2, hg2, ht2, hv2, hd2, _, _⟩, _⟩, _⟩, _, _⟩ := h
  have hn : Tryd.prog.globalNamed "internal/strconv.uint64pow10" = some 1 := by kernel_rfl
  obtain rfl := Option.some.inj (hn.symm.trans hg2)
  obtain rfl := Option.some.inj ((show (Tryd.prog.globals[1]?).map (·.type) = some 156 by kernel_rfl).symm.trans ht2)
  have e := Go.Lib.cells_of_tab (zs := Go.Lib.pow10Tab) (k := .u64) (n := 20) Tryd.underlying156 Tryd.underlying137 (by kernel_rfl) (by kernel_rfl) hd2
  have hn6 : Tryd.prog.globalNamed "math/bits.deBruijn64tab" = some 6 := by kernel_rfl
  obtain rfl := Option.some.inj (hn6.symm.trans hg1)
  obtain rfl := Option.some.inj ((show (Tryd.prog.globals[6]?).map (·.type) = some 174 by kernel_rfl).symm.trans ht1)
  have e6 := Go.Lib.cells_of_tab (zs := deB64) (k := .u8) (n := 64) Tryd.underlying174 Tryd.underlying5 (by kernel_rfl) (by kernel_rfl) hd1
  have c1 := fnExactMatrixText_globs_var hn hv2
  have c6 := fnExactMatrixText_globs_var hn6 hv1
  refine ⟨fun p hp => ?_, fun g hg => by cases hg⟩
  unfold globs at hp
  simp only [List.mem_cons, List.mem_nil_iff, or_false] at hp
  rcases hp with rfl | rfl
  · show snapF W 1 = some (Go.Lib.pow10Tab.map fun z => Value.int .u64 z).toArray
    rw [c1, ← e]
  · show snapF W 6 = some (deB64.map fun z => Value.int .u8 z).toArray
    rw [c6, ← e6]
theorem fnExactMatrixText_own : ownKnob Tryd.prog.godebug = Option.none := by kernel_rfl
theorem fnExactMatrixText_laidOut : laidOutB Tryd.prog = true := by kernel_rfl
set_option maxRecDepth 100000 in
theorem fnExactMatrixText_lifted (os : Os) (started : os.Started) (H : Type) (enc : TypeId × Value → H) :
    ReturnsInHanded {} Tryd.checked os 8 .any (fun w args => (Rows.fnExactMatrixTextSpec.pre enc Tryd.prog Tryd.f8 Rows.fnExactMatrixTextRow.domain false w args ∧ laidMetH Tryd.prog Rows.fnExactMatrixTextRow.laid w) ∧ sizedMet enc Tryd.prog Tryd.f8 (OpenSpec.ofChange Rows.fnExactMatrixTextSpec) false w args) (Rows.fnExactMatrixTextSpec.post enc Tryd.prog Tryd.f8 false true false false) := by
  refine returnsInHanded_of_change_and (C := Tryd.checked) (X := fun w _ => laidMetH Tryd.prog Rows.fnExactMatrixTextRow.laid w) (fun _ _ _ hh h => h.of_heap hh) fnExactMatrixText_own started (by kernel_rfl) Tryd.func8
    (ChangeSpec.witness_shaped (enc := enc) (C := Tryd.checked) (os := os) (X := fun w _ => laidMetH Tryd.prog Rows.fnExactMatrixTextRow.laid w) false (World.laidAll Tryd.prog os Rows.fnExactMatrixTextRow.laid) #[(Go.Value.agg #[(Go.Value.int Go.IntKind.i64 0), (Go.Value.int Go.IntKind.i64 0), (Go.Value.slice none 0 0)])] 12 (World.laidAll_os _ _ _)
      (World.shaped_of_ZipB (by kernel_rfl) (by kernel_rfl)) (by kernel_rfl) (by kernel_rfl) (by kernel_rfl)
      (by rw [MakeChecks.laidMetH_plain _ _ _ (by kernel_rfl)]; exact laidMet_laidAll _ (by kernel_rfl) (by kernel_rfl))) ?_
  intro W base args ds gs before hval0 hW hcnd _ hLaid _
  have hval : ∀ (j : Nat) t v, Tryd.f8.params[j]? = some t → args[j]? = some v → Value.okWide Tryd.prog W .any base t v := hval0
  have hW' := hW
  obtain ⟨p, q, hA0, hV, rfl, hfz, hnd⟩ := hW
  have hA : DataW.TrodAll enc Tryd.prog W 0 (fun _ => true) true Tryd.f8.params.toList args.toList ds p := hA0
  rw [Tryd.params8] at hA hval
  have hG : GlobsIn W := fnExactMatrixText_globs hLaid
  have hA1 : DataW.TrodAll enc Tryd.prog W 0 (fun _ => true) true [53] args.toList ds p := hA
  obtain ⟨v0, vs0, d0, ds0, p0, q0, e0, rfl, rfl, h0, hA2⟩ := trodAll_cons hA1
  have eE : vs0 = [] ∧ ds0 = [] := by
    cases vs0 <;> cases ds0 <;> simp_all [DataW.TrodAll]
  obtain ⟨rfl, rfl⟩ := eE
  have hargs : args = #[v0] := by apply Array.ext'; simpa using e0
  subst hargs
  obtain ⟨rfl, rfl⟩ := trodVars_none hV
  obtain ⟨_, ⟨_, _, ⟨a0, w0, rfl⟩, ⟨_, _, ⟨a1, w1, rfl⟩, ⟨_, _, ⟨a2, w2, rfl⟩, rfl, rfl⟩, rfl⟩, rfl⟩, hv0⟩ := open_struct hG pun53 op53 (hval 0 53 v0 rfl rfl) h0
  refine (law_run (w_FnExactMatrixText_ok a0 a1 a2 true (w_FnExactMatrixText_true a0 a1 a2 w2.2 w2.1)) (VLc hv0 VLn)).mono fun e W' ⟨he, hb⟩ => ?_
  subst he
  exact ⟨_, rfl, law_post hW' rfl rfl rfl pun4 fnExactMatrixText_laidOut (by simp only [Tryd.params8]; decide +kernel) hb⟩
theorem fnExactMatrixText_holds : Rows.FnExactMatrixTextSaid :=
  OpenClaim.holds_of_wide 8 Tryd.f8 rfl rfl rfl rfl rfl rfl rfl ⟨rfl, rfl, rfl, rfl, rfl⟩ rfl rfl rfl rfl rfl (by kernel_rfl) Tryd.func8 (by kernel_rfl)
    (of_decide_eq_true (by kernel_rfl)) (by unfold Func.isWrapper; first | (rw [if_pos (by decide +kernel)]; kernel_rfl) | (rw [if_neg (by decide +kernel)]; exact ⟨rfl, rfl⟩))
    (fun os started H enc _ => fnExactMatrixText_lifted os started H enc)
/-- The tied card. -/
theorem fnExactMatrixText_card_holds : Rows.FnExactMatrixTextCardSaid :=
  Claim7.holds_tied_plain_at .later [] [.data, .data, .data] true (true, "eff2a50b6427b8ec6165dfa502e61cc6a02ada03ca993dddda18d89d32808618") false
    fnExactMatrixText_holds (fun _ h => by cases h) (by kernel_rfl) (fun _ h => by cases h) fnExactMatrixText_row_tie rfl ⟨rfl, rfl⟩ (by kernel_rfl) rfl
    (fun f fn hf hfn => by
      obtain rfl : f = 8 := Option.some.inj ((show Tryd.prog.funcNamed "loop.example/g01327/laws.FnExactMatrixText" = some 8 by kernel_rfl).symm.trans hf) |>.symm
      obtain rfl : fn = Tryd.f8 := (Option.some.inj (Tryd.func8.symm.trans hfn)).symm
      exact ⟨by kernel_rfl, fun j t ht => by
        rw [Tryd.params8] at ht
        rcases j with _ | j
        · have h3 : t = 53 := by simpa using ht.symm
          subst h3
          exact (show Tryd.prog.wantsStandIn 53 = false by kernel_rfl)
        · simp at ht⟩)
    (by kernel_rfl)
#print axioms fnExactMatrixText_card_holds
end Go.Proofs.YtddegdokdpeboaaDoor
