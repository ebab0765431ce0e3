/- The law FnExactSparseRounds answers true for every readable input, and its arguments read afterwards as they did; no condition. -/
import Derived.Test.YtfhbfpdeafpelaaRows
import Derived.Test.YtfhbfpdeafpelaaP
namespace Go.Proofs.Ytfhbfpdeafpelaa
open Go Go.AM Go.ChangeShapes Go.WideShapes Go.ChangeAt Go.RowKit
set_option maxRecDepth 20000
set_option maxHeartbeats 4000000
abbrev opG2 : List AV → Prop := fun l => ∃ n : Int, (Lit.int .i64 n).wf = true ∧ l = [.x (.int .i64 n)]
theorem op2 : Op1 Try.prog 2 opG2 := Op1.int pun2
abbrev opG22 : List AV → Prop := fun l => ∃ L : List Int, ((∀ z ∈ L, (Lit.int .i64 z).wf = true) ∧ L.length ≤ maxLen) ∧ l = [.sl L.length (L.map AV.i64)]
theorem op22 : Op1 Try.prog 22 opG22 := Op1.slice (f := AV.i64) (good := fun z => (Lit.int .i64 z).wf = true) pun22 (by kernel_rfl) op2
abbrev opG26 : List AV → Prop := fun l => ∃ c : F, FOk .f32 c ∧ l = [.f .f32 c]
theorem op26 : Op1 Try.prog 26 opG26 := Op1.float pun26
abbrev opG23 : List AV → Prop := fun l => ∃ L : List F, ((∀ z ∈ L, FOk .f32 z) ∧ L.length ≤ maxLen) ∧ l = [.sl L.length (L.map AV.f32)]
theorem op23 : Op1 Try.prog 23 opG23 := Op1.slice (f := AV.f32) (good := fun z => FOk .f32 z) pun23 (by kernel_rfl) op26
abbrev opG25 : List AV → Prop := GS [opG2, opG22, opG22, opG23]
theorem op25 : Op1 Try.prog 25 opG25 := Op1.struct pun25 (by kernel_rfl) ⟨by kernel_rfl, op2, ⟨by kernel_rfl, op22, ⟨by kernel_rfl, op22, ⟨by kernel_rfl, op23, trivial⟩⟩⟩⟩
theorem fnExactSparseRounds_own : ownKnob Try.prog.godebug = Option.none := by kernel_rfl
theorem fnExactSparseRounds_laidOut : laidOutB Try.prog = true := by kernel_rfl
set_option maxRecDepth 100000 in
theorem fnExactSparseRounds_lifted (os : Os) (started : os.Started) (H : Type) (enc : TypeId × Value → H) :
    ReturnsInHanded {} Try.checked os 3 .any (Rows.fnExactSparseRoundsSpec.pre6 enc Try.prog Try.f3 Rows.fnExactSparseRoundsRow.domain false) (Rows.fnExactSparseRoundsSpec.post enc Try.prog Try.f3 false true false false) := by
  refine returnsInHanded_of_change (C := Try.checked) fnExactSparseRounds_own started (by kernel_rfl) Try.func3
    (ChangeSpec.witness6 (enc := enc) (C := Try.checked) false ⟨#[], #[(Go.Value.agg #[(Go.Value.int Go.IntKind.i64 0), (Go.Value.slice none 0 0), (Go.Value.slice none 0 0), (Go.Value.slice none 0 0)]), (Go.Value.slice none 0 0), (Go.Value.float Go.FloatKind.f32 0), (Go.Value.float Go.FloatKind.f32 0), (Go.Value.int Go.IntKind.i64 0)], []⟩ 12 (by kernel_rfl) (by kernel_rfl) (by kernel_rfl) (by kernel_rfl)) ?_
  intro W base args ds gs before hval0 hW hcnd _
  have hval : ∀ (j : Nat) t v, Try.f3.params[j]? = some t → args[j]? = some v → Value.okWide Try.prog W .any base t v := hval0
  have hW' := hW
  obtain ⟨p, q, hA0, hV, rfl, hfz, hnd⟩ := hW
  have hA : DataW.TrodAll enc Try.prog W 0 (fun _ => true) true Try.f3.params.toList args.toList ds p := hA0
  rw [Try.params3] at hA hval
  have hG : GlobsIn W := ⟨fun p hp => (by cases hp), fun p hp => (by cases hp)⟩
  have hA1 : DataW.TrodAll enc Try.prog W 0 (fun _ => true) true [25, 23, 26, 26, 2] args.toList ds p := hA
  obtain ⟨v0, vs0, d0, ds0, p0, q0, e0, rfl, rfl, h0, hA2⟩ := trodAll_cons hA1
  obtain ⟨v1, vs1, d1, ds1, p1, q1, e1, rfl, rfl, h1, hA3⟩ := trodAll_cons hA2
  subst e1
  obtain ⟨v2, vs2, d2, ds2, p2, q2, e2, rfl, rfl, h2, hA4⟩ := trodAll_cons hA3
  subst e2
  obtain ⟨v3, vs3, d3, ds3, p3, q3, e3, rfl, rfl, h3, hA5⟩ := trodAll_cons hA4
  subst e3
  obtain ⟨v4, vs4, d4, ds4, p4, q4, e4, rfl, rfl, h4, hA6⟩ := trodAll_cons hA5
  subst e4
  have eE : vs4 = [] ∧ ds4 = [] := by
    cases vs4 <;> cases ds4 <;> simp_all [DataW.TrodAll]
  obtain ⟨rfl, rfl⟩ := eE
  have hargs : args = #[v0, v1, v2, v3, v4] := by apply Array.ext'; simpa using e0
  subst hargs
  obtain ⟨rfl, rfl⟩ := trodVars_none hV
  obtain ⟨_, ⟨_, _, ⟨a0, w0, rfl⟩, ⟨_, _, ⟨a1, w1, rfl⟩, ⟨_, _, ⟨a2, w2, rfl⟩, ⟨_, _, ⟨a3, w3, rfl⟩, rfl, rfl⟩, rfl⟩, rfl⟩, rfl⟩, hv0⟩ := open_struct hG pun25 op25 (hval 0 25 v0 rfl rfl) h0
  obtain ⟨a4, w4, hv1⟩ := open_one hG (cells_slice pun23 (hval 1 23 v1 rfl rfl)) op23 h1
  obtain ⟨a5, w5, hv2⟩ := open_one hG (cells_float pun26 (hval 2 26 v2 rfl rfl)) op26 h2
  obtain ⟨a6, w6, hv3⟩ := open_one hG (cells_float pun26 (hval 3 26 v3 rfl rfl)) op26 h3
  obtain ⟨a7, w7, hv4⟩ := open_one hG (cells_int pun2 (hval 4 2 v4 rfl rfl)) op2 h4
  refine (law_run (K1u_ok a0 a1 a2 a3 a4 a5 a6 a7 true (K1u_true a0 a1 a2 a3 a4 a5 a6 a7 w1.2 w2.2 w3.2 w4.2 w3.1 w4.1 w5 w6)) (VLc hv0 (VLc hv1 (VLc hv2 (VLc hv3 (VLc hv4 VLn)))))).mono fun e W' ⟨he, hb⟩ => ?_
  subst he
  exact ⟨_, rfl, law_post hW' rfl rfl rfl pun4 fnExactSparseRounds_laidOut (by simp only [Try.params3]; decide +kernel) hb⟩
theorem fnExactSparseRounds_holds : Rows.FnExactSparseRoundsSaid :=
  OpenClaim.holds_of_wide 3 Try.f3 rfl rfl rfl rfl rfl rfl rfl ⟨rfl, rfl, rfl, rfl, rfl⟩ rfl rfl rfl rfl rfl (by kernel_rfl) Try.func3 (by kernel_rfl)
    (of_decide_eq_true (by kernel_rfl)) (by unfold Func.isWrapper; first | (rw [if_pos (by decide +kernel)]; kernel_rfl) | (rw [if_neg (by decide +kernel)]; exact ⟨rfl, rfl⟩))
    (fun os started H enc _ => fnExactSparseRounds_lifted os started H enc)
#print axioms fnExactSparseRounds_holds
end Go.Proofs.Ytfhbfpdeafpelaa
