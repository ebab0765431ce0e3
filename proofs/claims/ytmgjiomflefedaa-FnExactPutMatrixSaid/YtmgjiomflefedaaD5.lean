/- The law FnExactPutMatrix answers true for every readable input, and its arguments read afterwards as they did; no condition. -/
import Derived.Test.YtmgjiomflefedaaRows
import Derived.Test.YtmgjiomflefedaaP5
namespace Go.Proofs.Ytmgjiomflefedaa
open Go Go.AM Go.ChangeShapes Go.WideShapes Go.ChangeAt Go.RowKit
set_option maxRecDepth 20000
set_option maxHeartbeats 4000000
theorem pun2 : Try.prog.underlying 2 = some (Go.TypeDesc.int Go.IntKind.i64) := by kernel_rfl
theorem pun52 : Try.prog.underlying 52 = some (Go.TypeDesc.struct #[{ name := "Rows", type := 2, offset := 0, embedded := false, tag := "", pkgPath := "", byteOffset := 0 }, { name := "Columns", type := 2, offset := 1, embedded := false, tag := "", pkgPath := "", byteOffset := 8 }, { name := "Numbers", type := 38, offset := 2, embedded := false, tag := "", pkgPath := "", byteOffset := 16 }]) := by kernel_rfl
abbrev opG2 : List AV → Prop := fun l => ∃ n : Int, (Lit.int .i64 n).wf = true ∧ l = [.x (.int .i64 n)]
theorem op2 : Op1 Try.prog 2 opG2 := Op1.int pun2
abbrev opG34 : List AV → Prop := fun l => ∃ c : F, FOk .f32 c ∧ l = [.f .f32 c]
theorem op34 : Op1 Try.prog 34 opG34 := Op1.float pun34
abbrev opG38 : List AV → Prop := fun l => ∃ L : List F, ((∀ z ∈ L, FOk .f32 z) ∧ L.length ≤ maxLen) ∧ l = [.sl L.length (L.map AV.f32)]
theorem op38 : Op1 Try.prog 38 opG38 := Op1.slice (f := AV.f32) (good := fun z => FOk .f32 z) pun38 (by kernel_rfl) op34
abbrev opG52 : List AV → Prop := GS [opG2, opG2, opG38]
theorem op52 : Op1 Try.prog 52 opG52 := Op1.struct pun52 (by kernel_rfl) ⟨by kernel_rfl, op2, ⟨by kernel_rfl, op2, ⟨by kernel_rfl, op38, trivial⟩⟩⟩
theorem fnExactPutMatrix_own : ownKnob Try.prog.godebug = Option.none := by kernel_rfl
theorem fnExactPutMatrix_laidOut : laidOutB Try.prog = true := by kernel_rfl
set_option maxRecDepth 100000 in
theorem fnExactPutMatrix_lifted (os : Os) (started : os.Started) (H : Type) (enc : TypeId × Value → H) :
    ReturnsInHanded {} Try.checked os 5 .any (Rows.fnExactPutMatrixSpec.pre6 enc Try.prog Try.f5 Rows.fnExactPutMatrixRow.domain false) (Rows.fnExactPutMatrixSpec.post enc Try.prog Try.f5 false true false false) := by
  refine returnsInHanded_of_change (C := Try.checked) fnExactPutMatrix_own started (by kernel_rfl) Try.func5
    (ChangeSpec.witness6 (enc := enc) (C := Try.checked) false ⟨#[], #[(Go.Value.agg #[(Go.Value.int Go.IntKind.i64 0), (Go.Value.int Go.IntKind.i64 0), (Go.Value.slice none 0 0)]), (Go.Value.agg #[(Go.Value.int Go.IntKind.i64 0), (Go.Value.int Go.IntKind.i64 0), (Go.Value.slice none 0 0)]), (Go.Value.int Go.IntKind.i64 0), (Go.Value.int Go.IntKind.i64 0)], []⟩ 12 (by kernel_rfl) (by kernel_rfl) (by kernel_rfl) (by kernel_rfl)) ?_
  intro W base args ds gs before hval0 hW hcnd _
  have hval : ∀ (j : Nat) t v, Try.f5.params[j]? = some t → args[j]? = some v → Value.okWide Try.prog W .any base t v := hval0
  have hW' := hW
  obtain ⟨p, q, hA0, hV, rfl, hfz, hnd⟩ := hW
  have hA : DataW.TrodAll enc Try.prog W 0 (fun _ => true) true Try.f5.params.toList args.toList ds p := hA0
  rw [Try.params5] at hA hval
  have hA1 : DataW.TrodAll enc Try.prog W 0 (fun _ => true) true [52, 52, 2, 2] args.toList ds p := hA
  obtain ⟨v0, vs0, d0, ds0, p0, q0, e0, rfl, rfl, h0, hA2⟩ := trodAll_cons hA1
  obtain ⟨v1, vs1, d1, ds1, p1, q1, e1, rfl, rfl, h1, hA3⟩ := trodAll_cons hA2
  subst e1
  obtain ⟨v2, vs2, d2, ds2, p2, q2, e2, rfl, rfl, h2, hA4⟩ := trodAll_cons hA3
  subst e2
  obtain ⟨v3, vs3, d3, ds3, p3, q3, e3, rfl, rfl, h3, hA5⟩ := trodAll_cons hA4
  subst e3
  have eE : vs3 = [] ∧ ds3 = [] := by
    cases vs3 <;> cases ds3 <;> simp_all [DataW.TrodAll]
  obtain ⟨rfl, rfl⟩ := eE
  have hargs : args = #[v0, v1, v2, v3] := by apply Array.ext'; simpa using e0
  subst hargs
  obtain ⟨rfl, rfl⟩ := trodVars_none hV
  obtain ⟨_, ⟨_, _, ⟨a0, w0, rfl⟩, ⟨_, _, ⟨a1, w1, rfl⟩, ⟨_, _, ⟨a2, w2, rfl⟩, rfl, rfl⟩, rfl⟩, rfl⟩, hv0⟩ := open_struct pun52 op52 (hval 0 52 v0 rfl rfl) h0
  obtain ⟨_, ⟨_, _, ⟨a3, w3, rfl⟩, ⟨_, _, ⟨a4, w4, rfl⟩, ⟨_, _, ⟨a5, w5, rfl⟩, rfl, rfl⟩, rfl⟩, rfl⟩, hv1⟩ := open_struct pun52 op52 (hval 1 52 v1 rfl rfl) h1
  obtain ⟨a6, w6, hv2⟩ := open_one (cells_int pun2 (hval 2 2 v2 rfl rfl)) op2 h2
  obtain ⟨a7, w7, hv3⟩ := open_one (cells_int pun2 (hval 3 2 v3 rfl rfl)) op2 h3
  refine (law_run (f5_ok a0 a1 a2 a3 a4 a5 a6 a7 true (f5_true a0 a1 a2 a3 a4 a5 a6 a7 w2.2 w5.2 w2.1 w5.1)) (VLc hv0 (VLc hv1 (VLc hv2 (VLc hv3 VLn))))).mono fun e W' ⟨he, hb⟩ => ?_
  subst he
  exact ⟨_, rfl, law_post hW' rfl rfl rfl pun4 fnExactPutMatrix_laidOut (by simp only [Try.params5]; decide +kernel) hb⟩
theorem fnExactPutMatrix_holds : Rows.FnExactPutMatrixSaid :=
  OpenClaim.holds_of_wide 5 Try.f5 rfl rfl rfl rfl rfl rfl rfl ⟨rfl, rfl, rfl, rfl, rfl⟩ rfl rfl rfl rfl rfl (by kernel_rfl) Try.func5 (by kernel_rfl)
    (of_decide_eq_true (by kernel_rfl)) (by unfold Func.isWrapper; first | (rw [if_pos (by decide +kernel)]; kernel_rfl) | (rw [if_neg (by decide +kernel)]; exact ⟨rfl, rfl⟩))
    (fun os started H enc _ => fnExactPutMatrix_lifted os started H enc)
#print axioms fnExactPutMatrix_holds
end Go.Proofs.Ytmgjiomflefedaa
