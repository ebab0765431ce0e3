/- The law FnExactValidDesk answers true for every readable input, and its arguments read afterwards as they did; no condition. -/
import Derived.Test.YtmgjiomflefedaaRows
import Derived.Test.YtmgjiomflefedaaP2
namespace Go.Proofs.Ytmgjiomflefedaa
open Go Go.AM Go.ChangeShapes Go.WideShapes Go.ChangeAt Go.RowKit
set_option maxRecDepth 20000
set_option maxHeartbeats 4000000
theorem pun38 : Try.prog.underlying 38 = some (Go.TypeDesc.slice 34) := by kernel_rfl
theorem pun43 : Try.prog.underlying 43 = some (Go.TypeDesc.slice 2) := by kernel_rfl
theorem pun52 : Try.prog.underlying 52 = some (Go.TypeDesc.struct #[{ name := "Rows", type := 2, offset := 0, embedded := false, tag := "", pkgPath := "", byteOffset := 0 }, { name := "Columns", type := 2, offset := 1, embedded := false, tag := "", pkgPath := "", byteOffset := 8 }, { name := "Numbers", type := 38, offset := 2, embedded := false, tag := "", pkgPath := "", byteOffset := 16 }]) := by kernel_rfl
theorem pun60 : Try.prog.underlying 60 = some (Go.TypeDesc.struct #[{ name := "Mids", type := 38, offset := 0, embedded := false, tag := "", pkgPath := "", byteOffset := 0 }, { name := "Sides", type := 38, offset := 1, embedded := false, tag := "", pkgPath := "", byteOffset := 24 }]) := by kernel_rfl
theorem pun61 : Try.prog.underlying 61 = some (Go.TypeDesc.struct #[{ name := "Rows", type := 2, offset := 0, embedded := false, tag := "", pkgPath := "", byteOffset := 0 }, { name := "Columns", type := 2, offset := 1, embedded := false, tag := "", pkgPath := "", byteOffset := 8 }, { name := "Numbers", type := 43, offset := 2, embedded := false, tag := "", pkgPath := "", byteOffset := 16 }]) := by kernel_rfl
theorem pun63 : Try.prog.underlying 63 = some (Go.TypeDesc.struct #[{ name := "Matrix", type := 52, offset := 0, embedded := false, tag := "", pkgPath := "", byteOffset := 0 }, { name := "Vector", type := 38, offset := 3, embedded := false, tag := "", pkgPath := "", byteOffset := 40 }, { name := "Chain", type := 60, offset := 4, embedded := false, tag := "", pkgPath := "", byteOffset := 64 }, { name := "Whole", type := 61, offset := 6, embedded := false, tag := "", pkgPath := "", byteOffset := 112 }]) := by kernel_rfl
abbrev opG2 : List AV → Prop := fun l => ∃ n : Int, (Lit.int .i64 n).wf = true ∧ l = [.x (.int .i64 n)]
theorem op2 : Op1 Try.prog 2 opG2 := Op1.int pun2
abbrev opG34 : List AV → Prop := fun l => ∃ c : F, FOk .f32 c ∧ l = [.f .f32 c]
theorem op34 : Op1 Try.prog 34 opG34 := Op1.float pun34
abbrev opG38 : List AV → Prop := fun l => ∃ L : List F, ((∀ z ∈ L, FOk .f32 z) ∧ L.length ≤ maxLen) ∧ l = [.sl L.length (L.map AV.f32)]
theorem op38 : Op1 Try.prog 38 opG38 := Op1.slice (f := AV.f32) (good := fun z => FOk .f32 z) pun38 (by kernel_rfl) op34
abbrev opG52 : List AV → Prop := GS [opG2, opG2, opG38]
theorem op52 : Op1 Try.prog 52 opG52 := Op1.struct pun52 (by kernel_rfl) ⟨by kernel_rfl, op2, ⟨by kernel_rfl, op2, ⟨by kernel_rfl, op38, trivial⟩⟩⟩
abbrev opG60 : List AV → Prop := GS [opG38, opG38]
theorem op60 : Op1 Try.prog 60 opG60 := Op1.struct pun60 (by kernel_rfl) ⟨by kernel_rfl, op38, ⟨by kernel_rfl, op38, trivial⟩⟩
abbrev opG43 : List AV → Prop := fun l => ∃ L : List Int, ((∀ z ∈ L, (Lit.int .i64 z).wf = true) ∧ L.length ≤ maxLen) ∧ l = [.sl L.length (L.map AV.i64)]
theorem op43 : Op1 Try.prog 43 opG43 := Op1.slice (f := AV.i64) (good := fun z => (Lit.int .i64 z).wf = true) pun43 (by kernel_rfl) op2
abbrev opG61 : List AV → Prop := GS [opG2, opG2, opG43]
theorem op61 : Op1 Try.prog 61 opG61 := Op1.struct pun61 (by kernel_rfl) ⟨by kernel_rfl, op2, ⟨by kernel_rfl, op2, ⟨by kernel_rfl, op43, trivial⟩⟩⟩
abbrev opG63 : List AV → Prop := GS [opG52, opG38, opG60, opG61]
theorem op63 : Op1 Try.prog 63 opG63 := Op1.struct pun63 (by kernel_rfl) ⟨by kernel_rfl, op52, ⟨by kernel_rfl, op38, ⟨by kernel_rfl, op60, ⟨by kernel_rfl, op61, trivial⟩⟩⟩⟩
theorem fnExactValidDesk_own : ownKnob Try.prog.godebug = Option.none := by kernel_rfl
theorem fnExactValidDesk_laidOut : laidOutB Try.prog = true := by kernel_rfl
set_option maxRecDepth 100000 in
theorem fnExactValidDesk_lifted (os : Os) (started : os.Started) (H : Type) (enc : TypeId × Value → H) :
    ReturnsInHanded {} Try.checked os 7 .any (Rows.fnExactValidDeskSpec.pre6 enc Try.prog Try.f7 Rows.fnExactValidDeskRow.domain false) (Rows.fnExactValidDeskSpec.post enc Try.prog Try.f7 false true false false) := by
  refine returnsInHanded_of_change (C := Try.checked) fnExactValidDesk_own started (by kernel_rfl) Try.func7
    (ChangeSpec.witness6 (enc := enc) (C := Try.checked) false ⟨#[], #[(Go.Value.agg #[(Go.Value.int Go.IntKind.i64 0), (Go.Value.int Go.IntKind.i64 0), (Go.Value.slice none 0 0), (Go.Value.slice none 0 0), (Go.Value.slice none 0 0), (Go.Value.slice none 0 0), (Go.Value.int Go.IntKind.i64 0), (Go.Value.int Go.IntKind.i64 0), (Go.Value.slice none 0 0)])], []⟩ 12 (by kernel_rfl) (by kernel_rfl) (by kernel_rfl) (by kernel_rfl)) ?_
  intro W base args ds gs before hval0 hW hcnd _
  have hval : ∀ (j : Nat) t v, Try.f7.params[j]? = some t → args[j]? = some v → Value.okWide Try.prog W .any base t v := hval0
  have hW' := hW
  obtain ⟨p, q, hA0, hV, rfl, hfz, hnd⟩ := hW
  have hA : DataW.TrodAll enc Try.prog W 0 (fun _ => true) true Try.f7.params.toList args.toList ds p := hA0
  rw [Try.params7] at hA hval
  have hA1 : DataW.TrodAll enc Try.prog W 0 (fun _ => true) true [63] args.toList ds p := hA
  obtain ⟨v0, vs0, d0, ds0, p0, q0, e0, rfl, rfl, h0, hA2⟩ := trodAll_cons hA1
  have eE : vs0 = [] ∧ ds0 = [] := by
    cases vs0 <;> cases ds0 <;> simp_all [DataW.TrodAll]
  obtain ⟨rfl, rfl⟩ := eE
  have hargs : args = #[v0] := by apply Array.ext'; simpa using e0
  subst hargs
  obtain ⟨rfl, rfl⟩ := trodVars_none hV
  obtain ⟨_, ⟨_, _, ⟨_, _, ⟨a0, w0, rfl⟩, ⟨_, _, ⟨a1, w1, rfl⟩, ⟨_, _, ⟨a2, w2, rfl⟩, rfl, rfl⟩, rfl⟩, rfl⟩, ⟨_, _, ⟨a3, w3, rfl⟩, ⟨_, _, ⟨_, _, ⟨a4, w4, rfl⟩, ⟨_, _, ⟨a5, w5, rfl⟩, rfl, rfl⟩, rfl⟩, ⟨_, _, ⟨_, _, ⟨a6, w6, rfl⟩, ⟨_, _, ⟨a7, w7, rfl⟩, ⟨_, _, ⟨a8, w8, rfl⟩, rfl, rfl⟩, rfl⟩, rfl⟩, rfl, rfl⟩, rfl⟩, rfl⟩, rfl⟩, hv0⟩ := open_struct pun63 op63 (hval 0 63 v0 rfl rfl) h0
  refine (law_run (f7_ok a0 a1 a2 a3 a4 a5 a6 a7 a8 true (f7_true a0 a1 a2 a3 a4 a5 a6 a7 a8 w2.2 w3.2 w4.2 w5.2 w8.2 w2.1 w3.1 w4.1 w5.1)) (VLc hv0 VLn)).mono fun e W' ⟨he, hb⟩ => ?_
  subst he
  exact ⟨_, rfl, law_post hW' rfl rfl rfl pun4 fnExactValidDesk_laidOut (by simp only [Try.params7]; decide +kernel) hb⟩
theorem fnExactValidDesk_holds : Rows.FnExactValidDeskSaid :=
  OpenClaim.holds_of_wide 7 Try.f7 rfl rfl rfl rfl rfl rfl rfl ⟨rfl, rfl, rfl, rfl, rfl⟩ rfl rfl rfl rfl rfl (by kernel_rfl) Try.func7 (by kernel_rfl)
    (of_decide_eq_true (by kernel_rfl)) (by unfold Func.isWrapper; first | (rw [if_pos (by decide +kernel)]; kernel_rfl) | (rw [if_neg (by decide +kernel)]; exact ⟨rfl, rfl⟩))
    (fun os started H enc _ => fnExactValidDesk_lifted os started H enc)
#print axioms fnExactValidDesk_holds
end Go.Proofs.Ytmgjiomflefedaa
