/- The law FnExactReadWhole answers true for every readable input, and its arguments read afterwards as they did; no condition. -/
import Derived.ProofKit
import Derived.OpenShut
import Derived.LaidMore
import Derived.Lay
import Derived.SevenTiedAt
import Derived.Stop.Joined
import Derived.Lib.LaidTab
import Derived.Test.YtofhplefkigkfaaDoorTie
import Derived.Test.YtofhplefkigkfaaDoorCards
import Derived.Test.YtofhplefkigkfaaDoorRows
import Derived.Test.YtofhplefkigkfaaDoorP
namespace Go.Proofs.YtofhplefkigkfaaDoor
open Go Go.AM Go.ChangeShapes Go.WideShapes Go.ChangeAt Go.RowKit
set_option maxRecDepth 20000
set_option maxHeartbeats 4000000
abbrev opG9 : List AV → Prop := fun l => ∃ x : ByteArray, x.size ≤ maxLen ∧ l = [.str x]
theorem op9 : Op1 Tryd.prog 9 opG9 := Op1.string pun9
theorem fnExactReadWhole_globs_var {W : World} {name : String} {g : Nat} {cs : Array Value} (hn : Tryd.prog.globalNamed name = some g) (hv : World.var? Tryd.prog W name = some cs) : snapF W g = some cs := by
  unfold World.var? at hv
  rw [hn, Option.bind_some] at hv
  unfold snapF
  cases hh : W.heap[g]? with
  | none => rw [hh] at hv; cases hv
  | some ob =>
    rw [hh] at hv
    cases ob with
    | cells cs' T m => exact hv
    | _ => cases hv
theorem fnExactReadWhole_globs {W : World} (h : laidMetH Tryd.prog Rows.fnExactReadWholeRow.laid W) : GlobsIn W := by
  rw [MakeChecks.laidMetH_plain _ _ _ (by kernel_rfl)] at h
  obtain ⟨ps, ⟨g0, t0, cs0, f0, p0, q0, hg0, ht0, hv0, hd0, ⟨g1, t1, cs1, f1, p1, q1, hg1, ht1, hv1, hd1, ⟨g2, t2, cs2, f2, p2, q2, hg2, ht2, hv2, hd2, ⟨g3, t3, cs3, f3, p3, q3, hg3, ht3, hv3, hd3, ⟨g4, t4, cs4, f4, p4, q4, hg4, ht4, hv4, hd4, ⟨g5, t5, cs5, f5, p5, q5, hg5, ht5, hv5, hd5, _, _⟩, _⟩, _⟩, _⟩, _⟩, _⟩, _, _⟩ := h
  have hn : Tryd.prog.globalNamed "internal/strconv.uint64pow10" = some 5 := by kernel_rfl
  obtain rfl := Option.some.inj (hn.symm.trans hg2)
  obtain rfl := Option.some.inj ((show (Tryd.prog.globals[5]?).map (·.type) = some 103 by kernel_rfl).symm.trans ht2)
  have e := Go.Lib.cells_of_tab (zs := Go.Lib.pow10Tab) (k := .u64) (n := 20) Tryd.underlying103 Tryd.underlying71 (by kernel_rfl) (by kernel_rfl) hd2
  have hn4 : Tryd.prog.globalNamed "strconv.ErrRange" = some 2 := by kernel_rfl
  obtain rfl := Option.some.inj (hn4.symm.trans hg4)
  obtain rfl := Option.some.inj ((show (Tryd.prog.globals[2]?).map (·.type) = some 50 by kernel_rfl).symm.trans ht4)
  obtain ⟨_, u4, v4, e4, _, _⟩ := iface_of_trod Tryd.underlying50 hd4
  have hn5 : Tryd.prog.globalNamed "strconv.ErrSyntax" = some 1 := by kernel_rfl
  obtain rfl := Option.some.inj (hn5.symm.trans hg5)
  obtain rfl := Option.some.inj ((show (Tryd.prog.globals[1]?).map (·.type) = some 50 by kernel_rfl).symm.trans ht5)
  obtain ⟨_, u5, v5, e5, _, _⟩ := iface_of_trod Tryd.underlying50 hd5
  have c2 := fnExactReadWhole_globs_var hn hv2
  have c4 := fnExactReadWhole_globs_var hn4 hv4
  have c5 := fnExactReadWhole_globs_var hn5 hv5
  refine ⟨fun p hp => ?_, fun g hg => ?_⟩
  · have hp1 : p = (5, (Go.Lib.pow10Tab.map fun z => Value.int .u64 z).toArray) := by
      unfold globs at hp; exact List.mem_singleton.1 hp
    subst hp1
    rw [show (5, (Go.Lib.pow10Tab.map fun z => Value.int .u64 z).toArray).1 = 5 from rfl, c2, ← e]
  · unfold globsI at hg
    simp only [List.mem_cons, List.mem_nil_iff, or_false] at hg
    rcases hg with rfl | rfl
    · exact ⟨.iface u5 v5, by rw [c5]; exact congrArg some (Array.ext' e5), .inr ⟨_, _, rfl⟩⟩
    · exact ⟨.iface u4 v4, by rw [c4]; exact congrArg some (Array.ext' e4), .inr ⟨_, _, rfl⟩⟩
theorem fnExactReadWhole_own : ownKnob Tryd.prog.godebug = Option.none := by kernel_rfl
theorem fnExactReadWhole_laidOut : laidOutB Tryd.prog = true := by kernel_rfl
set_option maxRecDepth 100000 in
theorem fnExactReadWhole_lifted (os : Os) (started : os.Started) (H : Type) (enc : TypeId × Value → H) :
    ReturnsInHanded {} Tryd.checked os 3 .any (fun w args => (Rows.fnExactReadWholeSpec.pre enc Tryd.prog Tryd.f3 Rows.fnExactReadWholeRow.domain false w args ∧ laidMetH Tryd.prog Rows.fnExactReadWholeRow.laid w) ∧ sizedMet enc Tryd.prog Tryd.f3 (OpenSpec.ofChange Rows.fnExactReadWholeSpec) false w args) (Rows.fnExactReadWholeSpec.post enc Tryd.prog Tryd.f3 false true false false) := by
  refine returnsInHanded_of_change_and (C := Tryd.checked) (X := fun w _ => laidMetH Tryd.prog Rows.fnExactReadWholeRow.laid w) (fun _ _ _ hh h => h.of_heap hh) fnExactReadWhole_own started (by kernel_rfl) Tryd.func3
    (ChangeSpec.witness_shaped (enc := enc) (C := Tryd.checked) (os := os) (X := fun w _ => laidMetH Tryd.prog Rows.fnExactReadWholeRow.laid w) false (World.laidAll Tryd.prog os Rows.fnExactReadWholeRow.laid) #[(Go.Value.string { data := #[] })] 12 (World.laidAll_os _ _ _)
      (World.shaped_of_ZipB (by kernel_rfl) (by kernel_rfl)) (by kernel_rfl) (by kernel_rfl) (by kernel_rfl)
      (by rw [MakeChecks.laidMetH_plain _ _ _ (by kernel_rfl)]; exact laidMet_laidAll _ (by kernel_rfl) (by kernel_rfl))) ?_
  intro W base args ds gs before hval0 hW hcnd _ hLaid _
  have hval : ∀ (j : Nat) t v, Tryd.f3.params[j]? = some t → args[j]? = some v → Value.okWide Tryd.prog W .any base t v := hval0
  have hW' := hW
  obtain ⟨p, q, hA0, hV, rfl, hfz, hnd⟩ := hW
  have hA : DataW.TrodAll enc Tryd.prog W 0 (fun _ => true) true Tryd.f3.params.toList args.toList ds p := hA0
  rw [Tryd.params3] at hA hval
  have hG : GlobsIn W := fnExactReadWhole_globs hLaid
  have hA1 : DataW.TrodAll enc Tryd.prog W 0 (fun _ => true) true [9] args.toList ds p := hA
  obtain ⟨v0, vs0, d0, ds0, p0, q0, e0, rfl, rfl, h0, hA2⟩ := trodAll_cons hA1
  have eE : vs0 = [] ∧ ds0 = [] := by
    cases vs0 <;> cases ds0 <;> simp_all [DataW.TrodAll]
  obtain ⟨rfl, rfl⟩ := eE
  have hargs : args = #[v0] := by apply Array.ext'; simpa using e0
  subst hargs
  obtain ⟨rfl, rfl⟩ := trodVars_none hV
  obtain ⟨a0, w0, hv0⟩ := open_one hG (cells_string pun9 (hval 0 9 v0 rfl rfl)) op9 h0
  refine (law_run (w_FnExactReadWhole_ok a0 true (w_FnExactReadWhole_true a0)) (VLc hv0 VLn)).mono fun e W' ⟨he, hb⟩ => ?_
  subst he
  exact ⟨_, rfl, law_post hW' rfl rfl rfl pun4 fnExactReadWhole_laidOut (by simp only [Tryd.params3]; decide +kernel) hb⟩
theorem fnExactReadWhole_holds : Rows.FnExactReadWholeSaid :=
  OpenClaim.holds_of_wide 3 Tryd.f3 rfl rfl rfl rfl rfl rfl rfl ⟨rfl, rfl, rfl, rfl, rfl⟩ rfl rfl rfl rfl rfl (by kernel_rfl) Tryd.func3 (by kernel_rfl)
    (of_decide_eq_true (by kernel_rfl)) (by unfold Func.isWrapper; first | (rw [if_pos (by decide +kernel)]; kernel_rfl) | (rw [if_neg (by decide +kernel)]; exact ⟨rfl, rfl⟩))
    (fun os started H enc _ => fnExactReadWhole_lifted os started H enc)
/-- The tied card. -/
theorem fnExactReadWhole_card_holds : Rows.FnExactReadWholeCardSaid :=
  Claim7.holds_tied_plain_at .later [] [.data, .data, .data, .data, .sentinel, .sentinel, .pinned] true (true, "503494d6850d3f88170a9e2d8efdbc4d902dd81fd2e20d86a147c513e9b0547a") true
    fnExactReadWhole_holds (fun _ h => by cases h) (by kernel_rfl) (fun _ h => by cases h) fnExactReadWhole_row_tie rfl ⟨rfl, rfl⟩ (by kernel_rfl) rfl
    (fun f fn hf hfn => by
      obtain rfl : f = 3 := Option.some.inj ((show Tryd.prog.funcNamed "loop.example/g01327/laws.FnExactReadWhole" = some 3 by kernel_rfl).symm.trans hf) |>.symm
      obtain rfl : fn = Tryd.f3 := (Option.some.inj (Tryd.func3.symm.trans hfn)).symm
      exact ⟨by kernel_rfl, fun j t ht => by
        rw [Tryd.params3] at ht
        rcases j with _ | j
        · have h3 : t = 9 := by simpa using ht.symm
          subst h3
          exact (show Tryd.prog.wantsStandIn 9 = false by kernel_rfl)
        · simp at ht⟩)
    (by kernel_rfl)
#print axioms fnExactReadWhole_card_holds
end Go.Proofs.YtofhplefkigkfaaDoor
