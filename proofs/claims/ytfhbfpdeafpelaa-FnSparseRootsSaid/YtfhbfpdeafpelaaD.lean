/- The law FnSparseRoots answers true for every readable input, and its arguments read afterwards as they did; no condition. -/
import Derived.Test.YtfhbfpdeafpelaaRows
import Derived.Test.YtfhbfpdeafpelaaP
namespace Go.Proofs.Ytfhbfpdeafpelaa
open Go Go.AM Go.ChangeShapes Go.WideShapes Go.ChangeAt Go.RowKit
set_option maxRecDepth 20000
set_option maxHeartbeats 4000000
abbrev opG5 : List AV → Prop := fun l => ∃ n : Int, (Lit.int .u8 n).wf = true ∧ l = [.x (.int .u8 n)]
theorem op5 : Op1 Try.prog 5 opG5 := Op1.int pun5
abbrev opG38 : List AV → Prop := fun l => ∃ L : List Int, ((∀ z ∈ L, (Lit.int .u8 z).wf = true) ∧ L.length ≤ maxLen) ∧ l = [.sl L.length (L.map (AV.ik .u8))]
theorem op38 : Op1 Try.prog 38 opG38 := Op1.slice (f := (AV.ik .u8)) (good := fun z => (Lit.int .u8 z).wf = true) pun38 (by kernel_rfl) op5
theorem fnSparseRoots_own : ownKnob Try.prog.godebug = Option.none := by kernel_rfl
theorem fnSparseRoots_laidOut : laidOutB Try.prog = true := by kernel_rfl
set_option maxRecDepth 100000 in
theorem fnSparseRoots_lifted (os : Os) (started : os.Started) (H : Type) (enc : TypeId × Value → H) :
    ReturnsInHanded {} Try.checked os 5 .any (Rows.fnSparseRootsSpec.pre6 enc Try.prog Try.f5 Rows.fnSparseRootsRow.domain false) (Rows.fnSparseRootsSpec.post enc Try.prog Try.f5 false true false false) := by
  refine returnsInHanded_of_change (C := Try.checked) fnSparseRoots_own started (by kernel_rfl) Try.func5
    (ChangeSpec.witness6 (enc := enc) (C := Try.checked) false ⟨#[], #[(Go.Value.slice none 0 0), (Go.Value.slice none 0 0)], []⟩ 12 (by kernel_rfl) (by kernel_rfl) (by kernel_rfl) (by kernel_rfl)) ?_
  intro W base args ds gs before hval0 hW hcnd _
  have hval : ∀ (j : Nat) t v, Try.f5.params[j]? = some t → args[j]? = some v → Value.okWide Try.prog W .any base t v := hval0
  have hW' := hW
  obtain ⟨p, q, hA0, hV, rfl, hfz, hnd⟩ := hW
  have hA : DataW.TrodAll enc Try.prog W 0 (fun _ => true) true Try.f5.params.toList args.toList ds p := hA0
  rw [Try.params5] at hA hval
  have hG : GlobsIn W := ⟨fun p hp => (by cases hp), fun p hp => (by cases hp)⟩
  have hA1 : DataW.TrodAll enc Try.prog W 0 (fun _ => true) true [38, 38] args.toList ds p := hA
  obtain ⟨v0, vs0, d0, ds0, p0, q0, e0, rfl, rfl, h0, hA2⟩ := trodAll_cons hA1
  obtain ⟨v1, vs1, d1, ds1, p1, q1, e1, rfl, rfl, h1, hA3⟩ := trodAll_cons hA2
  subst e1
  have eE : vs1 = [] ∧ ds1 = [] := by
    cases vs1 <;> cases ds1 <;> simp_all [DataW.TrodAll]
  obtain ⟨rfl, rfl⟩ := eE
  have hargs : args = #[v0, v1] := by apply Array.ext'; simpa using e0
  subst hargs
  obtain ⟨rfl, rfl⟩ := trodVars_none hV
  obtain ⟨a0, w0, hv0⟩ := open_one hG (cells_slice pun38 (hval 0 38 v0 rfl rfl)) op38 h0
  obtain ⟨a1, w1, hv1⟩ := open_one hG (cells_slice pun38 (hval 1 38 v1 rfl rfl)) op38 h1
  refine (law_run (K26_ok a0 a1 true (K26_true a0 a1 w0.2 w1.2 w0.1 w1.1)) (VLc hv0 (VLc hv1 VLn))).mono fun e W' ⟨he, hb⟩ => ?_
  subst he
  exact ⟨_, rfl, law_post hW' rfl rfl rfl pun4 fnSparseRoots_laidOut (by simp only [Try.params5]; decide +kernel) hb⟩
theorem fnSparseRoots_holds : Rows.FnSparseRootsSaid :=
  OpenClaim.holds_of_wide 5 Try.f5 rfl rfl rfl rfl rfl rfl rfl ⟨rfl, rfl, rfl, rfl, rfl⟩ rfl rfl rfl rfl rfl (by kernel_rfl) Try.func5 (by kernel_rfl)
    (of_decide_eq_true (by kernel_rfl)) (by unfold Func.isWrapper; first | (rw [if_pos (by decide +kernel)]; kernel_rfl) | (rw [if_neg (by decide +kernel)]; exact ⟨rfl, rfl⟩))
    (fun os started H enc _ => fnSparseRoots_lifted os started H enc)
#print axioms fnSparseRoots_holds
end Go.Proofs.Ytfhbfpdeafpelaa
