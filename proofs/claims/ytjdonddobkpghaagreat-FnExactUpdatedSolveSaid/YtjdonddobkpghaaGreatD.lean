/- The law FnExactUpdatedSolve answers true for every readable input, and its arguments read afterwards as they did; no condition. -/
import Derived.Test.YtjdonddobkpghaaGreatRows
import Derived.Test.YtjdonddobkpghaaGreatP
namespace Go.Proofs.YtjdonddobkpghaaGreat
open Go Go.AM Go.ChangeShapes Go.WideShapes Go.ChangeAt Go.RowKit
set_option maxRecDepth 20000
set_option maxHeartbeats 4000000
abbrev opG2 : List AV → Prop := fun l => ∃ n : Int, (Lit.int .i64 n).wf = true ∧ l = [.x (.int .i64 n)]
theorem op2 : Op1 Tryz.prog 2 opG2 := Op1.int pun2
abbrev opG44 : List AV → Prop := fun l => ∃ c : F, FOk .f32 c ∧ l = [.f .f32 c]
theorem op44 : Op1 Tryz.prog 44 opG44 := Op1.float pun44
abbrev opG22 : List AV → Prop := fun l => ∃ L : List F, ((∀ z ∈ L, FOk .f32 z) ∧ L.length ≤ maxLen) ∧ l = [.sl L.length (L.map AV.f32)]
theorem op22 : Op1 Tryz.prog 22 opG22 := Op1.slice (f := AV.f32) (good := fun z => FOk .f32 z) pun22 (by kernel_rfl) op44
abbrev opG24 : List AV → Prop := GS [opG2, opG2, opG22]
theorem op24 : Op1 Tryz.prog 24 opG24 := Op1.struct pun24 (by kernel_rfl) ⟨by kernel_rfl, op2, ⟨by kernel_rfl, op2, ⟨by kernel_rfl, op22, trivial⟩⟩⟩
abbrev opG25 : List AV → Prop := fun l => ∃ L : List Int, ((∀ z ∈ L, (Lit.int .i64 z).wf = true) ∧ L.length ≤ maxLen) ∧ l = [.sl L.length (L.map AV.i64)]
theorem op25 : Op1 Tryz.prog 25 opG25 := Op1.slice (f := AV.i64) (good := fun z => (Lit.int .i64 z).wf = true) pun25 (by kernel_rfl) op2
abbrev opG27 : List AV → Prop := GS [opG24, opG25]
theorem op27 : Op1 Tryz.prog 27 opG27 := Op1.struct pun27 (by kernel_rfl) ⟨by kernel_rfl, op24, ⟨by kernel_rfl, op25, trivial⟩⟩
theorem fnExactUpdatedSolve_own : ownKnob Tryz.prog.godebug = Option.none := by kernel_rfl
theorem fnExactUpdatedSolve_laidOut : laidOutB Tryz.prog = true := by kernel_rfl
set_option maxRecDepth 100000 in
theorem fnExactUpdatedSolve_lifted (os : Os) (started : os.Started) (H : Type) (enc : TypeId × Value → H) :
    ReturnsInHanded {} Tryz.checked os 3 .any (Rows.fnExactUpdatedSolveSpec.pre6 enc Tryz.prog Tryz.f3 Rows.fnExactUpdatedSolveRow.domain false) (Rows.fnExactUpdatedSolveSpec.post enc Tryz.prog Tryz.f3 false true false false) := by
  refine returnsInHanded_of_change (C := Tryz.checked) fnExactUpdatedSolve_own started (by kernel_rfl) Tryz.func3
    (ChangeSpec.witness6 (enc := enc) (C := Tryz.checked) false ⟨#[], #[(Go.Value.agg #[(Go.Value.int Go.IntKind.i64 0), (Go.Value.int Go.IntKind.i64 0), (Go.Value.slice none 0 0), (Go.Value.slice none 0 0)]), (Go.Value.slice none 0 0), (Go.Value.slice none 0 0), (Go.Value.slice none 0 0)], []⟩ 12 (by kernel_rfl) (by kernel_rfl) (by kernel_rfl) (by kernel_rfl)) ?_
  intro W base args ds gs before hval0 hW hcnd _
  have hval : ∀ (j : Nat) t v, Tryz.f3.params[j]? = some t → args[j]? = some v → Value.okWide Tryz.prog W .any base t v := hval0
  have hW' := hW
  obtain ⟨p, q, hA0, hV, rfl, hfz, hnd⟩ := hW
  have hA : DataW.TrodAll enc Tryz.prog W 0 (fun _ => true) true Tryz.f3.params.toList args.toList ds p := hA0
  rw [Tryz.params3] at hA hval
  have hA1 : DataW.TrodAll enc Tryz.prog W 0 (fun _ => true) true [27, 22, 22, 22] args.toList ds p := hA
  obtain ⟨v0, vs0, d0, ds0, p0, q0, e0, rfl, rfl, h0, hA2⟩ := trodAll_cons hA1
  obtain ⟨v1, vs1, d1, ds1, p1, q1, e1, rfl, rfl, h1, hA3⟩ := trodAll_cons hA2
  subst e1
  obtain ⟨v2, vs2, d2, ds2, p2, q2, e2, rfl, rfl, h2, hA4⟩ := trodAll_cons hA3
  subst e2
  obtain ⟨v3, vs3, d3, ds3, p3, q3, e3, rfl, rfl, h3, hA5⟩ := trodAll_cons hA4
  subst e3
  have eE : vs3 = [] ∧ ds3 = [] := by
    cases vs3 <;> cases ds3 <;> simp_all [DataW.TrodAll]
  obtain ⟨rfl, rfl⟩ := eE
  have hargs : args = #[v0, v1, v2, v3] := by apply Array.ext'; simpa using e0
  subst hargs
  obtain ⟨rfl, rfl⟩ := trodVars_none hV
  obtain ⟨_, ⟨_, _, ⟨_, _, ⟨a0, w0, rfl⟩, ⟨_, _, ⟨a1, w1, rfl⟩, ⟨_, _, ⟨a2, w2, rfl⟩, rfl, rfl⟩, rfl⟩, rfl⟩, ⟨_, _, ⟨a3, w3, rfl⟩, rfl, rfl⟩, rfl⟩, hv0⟩ := open_struct pun27 op27 (hval 0 27 v0 rfl rfl) h0
  obtain ⟨a4, w4, hv1⟩ := open_one (cells_slice pun22 (hval 1 22 v1 rfl rfl)) op22 h1
  obtain ⟨a5, w5, hv2⟩ := open_one (cells_slice pun22 (hval 2 22 v2 rfl rfl)) op22 h2
  obtain ⟨a6, w6, hv3⟩ := open_one (cells_slice pun22 (hval 3 22 v3 rfl rfl)) op22 h3
  refine (law_run (w_FnExactUpdatedSolve_ok a0 a1 a2 a3 a4 a5 a6 true (w_FnExactUpdatedSolve_true a0 a1 a2 a3 a4 a5 a6 w2.2 w3.2 w4.2 w5.2 w6.2 w2.1 w4.1 w5.1 w6.1)) (VLc hv0 (VLc hv1 (VLc hv2 (VLc hv3 VLn))))).mono fun e W' ⟨he, hb⟩ => ?_
  subst he
  exact ⟨_, rfl, law_post hW' rfl rfl rfl pun4 fnExactUpdatedSolve_laidOut (by simp only [Tryz.params3]; decide +kernel) hb⟩
theorem fnExactUpdatedSolve_holds : Rows.FnExactUpdatedSolveSaid :=
  OpenClaim.holds_of_wide 3 Tryz.f3 rfl rfl rfl rfl rfl rfl rfl ⟨rfl, rfl, rfl, rfl, rfl⟩ rfl rfl rfl rfl rfl (by kernel_rfl) Tryz.func3 (by kernel_rfl)
    (of_decide_eq_true (by kernel_rfl)) (by unfold Func.isWrapper; first | (rw [if_pos (by decide +kernel)]; kernel_rfl) | (rw [if_neg (by decide +kernel)]; exact ⟨rfl, rfl⟩))
    (fun os started H enc _ => fnExactUpdatedSolve_lifted os started H enc)
#print axioms fnExactUpdatedSolve_holds
end Go.Proofs.YtjdonddobkpghaaGreat
