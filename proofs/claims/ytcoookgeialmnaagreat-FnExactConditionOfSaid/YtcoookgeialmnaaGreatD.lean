/- The law FnExactConditionOf answers true for every readable input, and its arguments read afterwards as they did; no condition. -/
import Derived.Test.YtcoookgeialmnaaGreatRows
import Derived.Test.YtcoookgeialmnaaGreatP
namespace Go.Proofs.YtcoookgeialmnaaGreat
open Go Go.AM Go.ChangeShapes Go.WideShapes Go.ChangeAt Go.RowKit
set_option maxRecDepth 20000
set_option maxHeartbeats 4000000
abbrev opG2 : List AV → Prop := fun l => ∃ n : Int, (Lit.int .i64 n).wf = true ∧ l = [.x (.int .i64 n)]
theorem op2 : Op1 Tryz.prog 2 opG2 := Op1.int pun2
abbrev opG33 : List AV → Prop := fun l => ∃ c : F, FOk .f32 c ∧ l = [.f .f32 c]
theorem op33 : Op1 Tryz.prog 33 opG33 := Op1.float pun33
abbrev opG22 : List AV → Prop := fun l => ∃ L : List F, ((∀ z ∈ L, FOk .f32 z) ∧ L.length ≤ maxLen) ∧ l = [.sl L.length (L.map AV.f32)]
theorem op22 : Op1 Tryz.prog 22 opG22 := Op1.slice (f := AV.f32) (good := fun z => FOk .f32 z) pun22 (by kernel_rfl) op33
abbrev opG24 : List AV → Prop := GS [opG2, opG2, opG22]
theorem op24 : Op1 Tryz.prog 24 opG24 := Op1.struct pun24 (by kernel_rfl) ⟨by kernel_rfl, op2, ⟨by kernel_rfl, op2, ⟨by kernel_rfl, op22, trivial⟩⟩⟩
theorem fnExactConditionOf_own : ownKnob Tryz.prog.godebug = Option.none := by kernel_rfl
theorem fnExactConditionOf_laidOut : laidOutB Tryz.prog = true := by kernel_rfl
set_option maxRecDepth 100000 in
theorem fnExactConditionOf_lifted (os : Os) (started : os.Started) (H : Type) (enc : TypeId × Value → H) :
    ReturnsInHanded {} Tryz.checked os 4 .any (Rows.fnExactConditionOfSpec.pre6 enc Tryz.prog Tryz.f4 Rows.fnExactConditionOfRow.domain false) (Rows.fnExactConditionOfSpec.post enc Tryz.prog Tryz.f4 false true false false) := by
  refine returnsInHanded_of_change (C := Tryz.checked) fnExactConditionOf_own started (by kernel_rfl) Tryz.func4
    (ChangeSpec.witness6 (enc := enc) (C := Tryz.checked) false ⟨#[], #[(Go.Value.agg #[(Go.Value.int Go.IntKind.i64 0), (Go.Value.int Go.IntKind.i64 0), (Go.Value.slice none 0 0)])], []⟩ 12 (by kernel_rfl) (by kernel_rfl) (by kernel_rfl) (by kernel_rfl)) ?_
  intro W base args ds gs before hval0 hW hcnd _
  have hval : ∀ (j : Nat) t v, Tryz.f4.params[j]? = some t → args[j]? = some v → Value.okWide Tryz.prog W .any base t v := hval0
  have hW' := hW
  obtain ⟨p, q, hA0, hV, rfl, hfz, hnd⟩ := hW
  have hA : DataW.TrodAll enc Tryz.prog W 0 (fun _ => true) true Tryz.f4.params.toList args.toList ds p := hA0
  rw [Tryz.params4] at hA hval
  have hA1 : DataW.TrodAll enc Tryz.prog W 0 (fun _ => true) true [24] args.toList ds p := hA
  obtain ⟨v0, vs0, d0, ds0, p0, q0, e0, rfl, rfl, h0, hA2⟩ := trodAll_cons hA1
  have eE : vs0 = [] ∧ ds0 = [] := by
    cases vs0 <;> cases ds0 <;> simp_all [DataW.TrodAll]
  obtain ⟨rfl, rfl⟩ := eE
  have hargs : args = #[v0] := by apply Array.ext'; simpa using e0
  subst hargs
  obtain ⟨rfl, rfl⟩ := trodVars_none hV
  obtain ⟨_, ⟨_, _, ⟨a0, w0, rfl⟩, ⟨_, _, ⟨a1, w1, rfl⟩, ⟨_, _, ⟨a2, w2, rfl⟩, rfl, rfl⟩, rfl⟩, rfl⟩, hv0⟩ := open_struct pun24 op24 (hval 0 24 v0 rfl rfl) h0
  refine (law_run (w_FnExactConditionOf_ok a0 a1 a2 true (w_FnExactConditionOf_true a0 a1 a2 w2.2 w2.1)) (VLc hv0 VLn)).mono fun e W' ⟨he, hb⟩ => ?_
  subst he
  exact ⟨_, rfl, law_post hW' rfl rfl rfl pun4 fnExactConditionOf_laidOut (by simp only [Tryz.params4]; decide +kernel) hb⟩
theorem fnExactConditionOf_holds : Rows.FnExactConditionOfSaid :=
  OpenClaim.holds_of_wide 4 Tryz.f4 rfl rfl rfl rfl rfl rfl rfl ⟨rfl, rfl, rfl, rfl, rfl⟩ rfl rfl rfl rfl rfl (by kernel_rfl) Tryz.func4 (by kernel_rfl)
    (of_decide_eq_true (by kernel_rfl)) (by unfold Func.isWrapper; first | (rw [if_pos (by decide +kernel)]; kernel_rfl) | (rw [if_neg (by decide +kernel)]; exact ⟨rfl, rfl⟩))
    (fun os started H enc _ => fnExactConditionOf_lifted os started H enc)
#print axioms fnExactConditionOf_holds
end Go.Proofs.YtcoookgeialmnaaGreat
