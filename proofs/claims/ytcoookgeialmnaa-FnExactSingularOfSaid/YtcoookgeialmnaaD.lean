/- The law FnExactSingularOf answers true for every readable input, and its arguments read afterwards as they did; no condition. -/
import Derived.Test.YtcoookgeialmnaaRows
import Derived.Test.YtcoookgeialmnaaP
namespace Go.Proofs.Ytcoookgeialmnaa
open Go Go.AM Go.ChangeShapes Go.WideShapes Go.ChangeAt Go.RowKit
set_option maxRecDepth 20000
set_option maxHeartbeats 4000000
abbrev opG2 : List AV → Prop := fun l => ∃ n : Int, (Lit.int .i64 n).wf = true ∧ l = [.x (.int .i64 n)]
theorem op2 : Op1 Try.prog 2 opG2 := Op1.int pun2
abbrev opG26 : List AV → Prop := fun l => ∃ c : F, FOk .f32 c ∧ l = [.f .f32 c]
theorem op26 : Op1 Try.prog 26 opG26 := Op1.float pun26
abbrev opG23 : List AV → Prop := fun l => ∃ L : List F, ((∀ z ∈ L, FOk .f32 z) ∧ L.length ≤ maxLen) ∧ l = [.sl L.length (L.map AV.f32)]
theorem op23 : Op1 Try.prog 23 opG23 := Op1.slice (f := AV.f32) (good := fun z => FOk .f32 z) pun23 (by kernel_rfl) op26
abbrev opG41 : List AV → Prop := GS [opG2, opG2, opG23]
theorem op41 : Op1 Try.prog 41 opG41 := Op1.struct pun41 (by kernel_rfl) ⟨by kernel_rfl, op2, ⟨by kernel_rfl, op2, ⟨by kernel_rfl, op23, trivial⟩⟩⟩
theorem fnExactSingularOf_own : ownKnob Try.prog.godebug = Option.none := by kernel_rfl
theorem fnExactSingularOf_laidOut : laidOutB Try.prog = true := by kernel_rfl
set_option maxRecDepth 100000 in
theorem fnExactSingularOf_lifted (os : Os) (started : os.Started) (H : Type) (enc : TypeId × Value → H) :
    ReturnsInHanded {} Try.checked os 5 .any (Rows.fnExactSingularOfSpec.pre6 enc Try.prog Try.f5 Rows.fnExactSingularOfRow.domain false) (Rows.fnExactSingularOfSpec.post enc Try.prog Try.f5 false true false false) := by
  refine returnsInHanded_of_change (C := Try.checked) fnExactSingularOf_own started (by kernel_rfl) Try.func5
    (ChangeSpec.witness6 (enc := enc) (C := Try.checked) false ⟨#[], #[(Go.Value.agg #[(Go.Value.int Go.IntKind.i64 0), (Go.Value.int Go.IntKind.i64 0), (Go.Value.slice none 0 0)]), (Go.Value.int Go.IntKind.i64 0)], []⟩ 12 (by kernel_rfl) (by kernel_rfl) (by kernel_rfl) (by kernel_rfl)) ?_
  intro W base args ds gs before hval0 hW hcnd _
  have hval : ∀ (j : Nat) t v, Try.f5.params[j]? = some t → args[j]? = some v → Value.okWide Try.prog W .any base t v := hval0
  have hW' := hW
  obtain ⟨p, q, hA0, hV, rfl, hfz, hnd⟩ := hW
  have hA : DataW.TrodAll enc Try.prog W 0 (fun _ => true) true Try.f5.params.toList args.toList ds p := hA0
  rw [Try.params5] at hA hval
  have hA1 : DataW.TrodAll enc Try.prog W 0 (fun _ => true) true [41, 2] args.toList ds p := hA
  obtain ⟨v0, vs0, d0, ds0, p0, q0, e0, rfl, rfl, h0, hA2⟩ := trodAll_cons hA1
  obtain ⟨v1, vs1, d1, ds1, p1, q1, e1, rfl, rfl, h1, hA3⟩ := trodAll_cons hA2
  subst e1
  have eE : vs1 = [] ∧ ds1 = [] := by
    cases vs1 <;> cases ds1 <;> simp_all [DataW.TrodAll]
  obtain ⟨rfl, rfl⟩ := eE
  have hargs : args = #[v0, v1] := by apply Array.ext'; simpa using e0
  subst hargs
  obtain ⟨rfl, rfl⟩ := trodVars_none hV
  obtain ⟨_, ⟨_, _, ⟨a0, w0, rfl⟩, ⟨_, _, ⟨a1, w1, rfl⟩, ⟨_, _, ⟨a2, w2, rfl⟩, rfl, rfl⟩, rfl⟩, rfl⟩, hv0⟩ := open_struct pun41 op41 (hval 0 41 v0 rfl rfl) h0
  obtain ⟨a3, w3, hv1⟩ := open_one (cells_int pun2 (hval 1 2 v1 rfl rfl)) op2 h1
  refine (law_run (w_FnExactSingularOf_ok a0 a1 a2 a3 true (w_FnExactSingularOf_true a0 a1 a2 a3 w2.2 w2.1)) (VLc hv0 (VLc hv1 VLn))).mono fun e W' ⟨he, hb⟩ => ?_
  subst he
  exact ⟨_, rfl, law_post hW' rfl rfl rfl pun4 fnExactSingularOf_laidOut (by simp only [Try.params5]; decide +kernel) hb⟩
theorem fnExactSingularOf_holds : Rows.FnExactSingularOfSaid :=
  OpenClaim.holds_of_wide 5 Try.f5 rfl rfl rfl rfl rfl rfl rfl ⟨rfl, rfl, rfl, rfl, rfl⟩ rfl rfl rfl rfl rfl (by kernel_rfl) Try.func5 (by kernel_rfl)
    (of_decide_eq_true (by kernel_rfl)) (by unfold Func.isWrapper; first | (rw [if_pos (by decide +kernel)]; kernel_rfl) | (rw [if_neg (by decide +kernel)]; exact ⟨rfl, rfl⟩))
    (fun os started H enc _ => fnExactSingularOf_lifted os started H enc)
#print axioms fnExactSingularOf_holds
end Go.Proofs.Ytcoookgeialmnaa
