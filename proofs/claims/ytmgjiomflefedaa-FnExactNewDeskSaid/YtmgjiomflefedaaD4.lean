/- The law FnExactNewDesk answers true; no condition. -/
import Derived.Test.YtmgjiomflefedaaRows
import Derived.Test.YtmgjiomflefedaaP4
namespace Go.Proofs.Ytmgjiomflefedaa
open Go Go.AM Go.ChangeShapes Go.WideShapes Go.ChangeAt Go.RowKit
set_option maxRecDepth 20000
set_option maxHeartbeats 4000000

theorem fnExactNewDesk_own : ownKnob Try.prog.godebug = Option.none := by kernel_rfl
theorem fnExactNewDesk_laidOut : laidOutB Try.prog = true := by kernel_rfl
set_option maxRecDepth 100000 in
theorem fnExactNewDesk_lifted (os : Os) (started : os.Started) (H : Type) (enc : TypeId × Value → H) :
    ReturnsInHanded {} Try.checked os 4 .any (Rows.fnExactNewDeskSpec.pre6 enc Try.prog Try.f4 Rows.fnExactNewDeskRow.domain false) (Rows.fnExactNewDeskSpec.post enc Try.prog Try.f4 false true false false) := by
  refine returnsInHanded_of_change (C := Try.checked) fnExactNewDesk_own started (by kernel_rfl) Try.func4
    (ChangeSpec.witness6 (enc := enc) (C := Try.checked) false ⟨#[], #[], []⟩ 12 (by kernel_rfl) (by kernel_rfl) (by kernel_rfl) (by kernel_rfl)) ?_
  intro W base args ds gs before hval0 hW hcnd _
  have hval : ∀ (j : Nat) t v, Try.f4.params[j]? = some t → args[j]? = some v → Value.okWide Try.prog W .any base t v := hval0
  have hW' := hW
  obtain ⟨p, q, hA0, hV, rfl, hfz, hnd⟩ := hW
  have hA : DataW.TrodAll enc Try.prog W 0 (fun _ => true) true Try.f4.params.toList args.toList ds p := hA0
  rw [Try.params4] at hA hval
  obtain ⟨eA, rfl⟩ : args.toList = [] ∧ ds = [] := by
    cases hargs : args.toList <;> cases ds <;> simp_all [DataW.TrodAll]
  have hargs : args = #[] := by apply Array.ext'; simpa using eA
  subst hargs
  obtain ⟨rfl, rfl⟩ := trodVars_none hV
  refine (law_run (f4_ok true f4_true) VLn).mono fun e W' ⟨he, hb⟩ => ?_
  subst he
  exact ⟨_, rfl, law_post hW' rfl rfl rfl pun4 fnExactNewDesk_laidOut (by simp only [Try.params4]; decide +kernel) hb⟩
theorem fnExactNewDesk_holds : Rows.FnExactNewDeskSaid :=
  OpenClaim.holds_of_wide 4 Try.f4 rfl rfl rfl rfl rfl rfl rfl ⟨rfl, rfl, rfl, rfl, rfl⟩ rfl rfl rfl rfl rfl (by kernel_rfl) Try.func4 (by kernel_rfl)
    (of_decide_eq_true (by kernel_rfl)) (by unfold Func.isWrapper; first | (rw [if_pos (by decide +kernel)]; kernel_rfl) | (rw [if_neg (by decide +kernel)]; exact ⟨rfl, rfl⟩))
    (fun os started H enc _ => fnExactNewDesk_lifted os started H enc)
#print axioms fnExactNewDesk_holds
end Go.Proofs.Ytmgjiomflefedaa
