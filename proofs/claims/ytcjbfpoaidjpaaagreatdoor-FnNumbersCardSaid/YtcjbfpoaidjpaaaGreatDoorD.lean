/- The law FnNumbers answers true for every readable input, and its arguments read afterwards as they did; no condition. -/
import Derived.ProofKit
import Derived.OpenShut
import Derived.LaidMore
import Derived.Lay
import Derived.SevenTiedAt
import Derived.Stop.Joined
import Derived.Lib.LaidTab
import Derived.Test.YtcjbfpoaidjpaaaGreatDoorTie
import Derived.Test.YtcjbfpoaidjpaaaGreatDoorCards
import Derived.Test.YtcjbfpoaidjpaaaGreatDoorRows
import Derived.Test.YtcjbfpoaidjpaaaGreatDoorP
namespace Go.Proofs.YtcjbfpoaidjpaaaGreatDoor
open Go Go.AM Go.ChangeShapes Go.WideShapes Go.ChangeAt Go.RowKit
set_option maxRecDepth 20000
set_option maxHeartbeats 4000000
abbrev opG5 : List AV → Prop := fun l => ∃ n : Int, (Lit.int .u8 n).wf = true ∧ l = [.x (.int .u8 n)]
theorem op5 : Op1 Tryz.prog 5 opG5 := Op1.int pun5
abbrev opG22 : List AV → Prop := fun l => ∃ L : List Int, ((∀ z ∈ L, (Lit.int .u8 z).wf = true) ∧ L.length ≤ maxLen) ∧ l = [.sl L.length (L.map (AV.ik .u8))]
theorem op22 : Op1 Tryz.prog 22 opG22 := Op1.slice (f := (AV.ik .u8)) (good := fun z => (Lit.int .u8 z).wf = true) pun22 (by kernel_rfl) op5
theorem fnNumbers_globs_var {W : World} {name : String} {g : Nat} {cs : Array Value} (hn : Tryz.prog.globalNamed name = some g) (hv : World.var? Tryz.prog W name = some cs) : snapF W g = some cs := by
  unfold World.var? at hv
  rw [hn, Option.bind_some] at hv
  unfold snapF
  cases hh : W.heap[g]? with
  | none => rw [hh] at hv; cases hv
  | some ob =>
    rw [hh] at hv
    cases ob with
    | cells cs' T m => exact hv
    | _ => cases hv
theorem fnNumbers_globs {W : World} (h : laidMetH Tryz.prog Rows.fnNumbersRow.laid W) : GlobsIn W := by
  rw [MakeChecks.laidMetH_plain _ _ _ (by kernel_rfl)] at h
  obtain ⟨ps, ⟨g0, t0, cs0, f0, p0, q0, hg0, ht0, hv0, hd0, ⟨g1, t1, cs1, f1, p1, q1, hg1, ht1, hv1, hd1, ⟨g2, t2, cs2, f2, p2, q2, hg2, ht2, hv2, hd2, ⟨g3, t3, cs3, f3, p3, q3, hg3, ht3, hv3, hd3, ⟨g4, t4, cs4, f4, p4, q4, hg4, ht4, hv4, hd4, ⟨g5, t5, cs5, f5, p5, q5, hg5, ht5, hv5, hd5, _, _, _⟩, _⟩, _⟩, _⟩, _⟩, _⟩, _, _⟩ := h
  have hn1 : Tryz.prog.globalNamed "internal/strconv.uint64pow10" = some 1 := by kernel_rfl
  obtain rfl := Option.some.inj (hn1.symm.trans hg2)
  obtain rfl := Option.some.inj ((show (Tryz.prog.globals[1]?).map (·.type) = some 148 by kernel_rfl).symm.trans ht2)
  have e1 := Go.Lib.cells_of_tab (zs := Go.Lib.pow10Tab) (k := .u64) (n := 20) Tryz.underlying148 Tryz.underlying90 (by kernel_rfl) (by kernel_rfl) hd2
  have c1 := fnNumbers_globs_var hn1 hv2
  have hn8 : Tryz.prog.globalNamed "math/bits.deBruijn64tab" = some 8 := by kernel_rfl
  obtain rfl := Option.some.inj (hn8.symm.trans hg1)
  obtain rfl := Option.some.inj ((show (Tryz.prog.globals[8]?).map (·.type) = some 169 by kernel_rfl).symm.trans ht1)
  have e8 := Go.Lib.cells_of_tab (zs := deB64) (k := .u8) (n := 64) Tryz.underlying169 Tryz.underlying5 (by kernel_rfl) (by kernel_rfl) hd1
  have c8 := fnNumbers_globs_var hn8 hv1
  have hn3 : Tryz.prog.globalNamed "strconv.ErrSyntax" = some 3 := by kernel_rfl
  obtain rfl := Option.some.inj (hn3.symm.trans hg5)
  obtain rfl := Option.some.inj ((show (Tryz.prog.globals[3]?).map (·.type) = some 99 by kernel_rfl).symm.trans ht5)
  obtain ⟨_, u3, v3, e3, _, _⟩ := iface_of_trod Tryz.underlying99 hd5
  have c3 := fnNumbers_globs_var hn3 hv5
  have hn4 : Tryz.prog.globalNamed "strconv.ErrRange" = some 4 := by kernel_rfl
  obtain rfl := Option.some.inj (hn4.symm.trans hg4)
  obtain rfl := Option.some.inj ((show (Tryz.prog.globals[4]?).map (·.type) = some 99 by kernel_rfl).symm.trans ht4)
  obtain ⟨_, u4, v4, e4, _, _⟩ := iface_of_trod Tryz.underlying99 hd4
  have c4 := fnNumbers_globs_var hn4 hv4
  refine ⟨fun p hp => ?_, fun g hg => ?_⟩
  · unfold globs at hp
    simp only [List.mem_cons, List.mem_nil_iff, or_false] at hp
    rcases hp with rfl | rfl
    · show snapF W 1 = some (Go.Lib.pow10Tab.map fun z => Value.int .u64 z).toArray
      rw [c1, ← e1]
    · show snapF W 8 = some (deB64.map fun z => Value.int .u8 z).toArray
      rw [c8, ← e8]
  · unfold globsI at hg
    simp only [List.mem_cons, List.mem_nil_iff, or_false] at hg
    rcases hg with rfl | rfl
    · exact ⟨.iface u3 v3, by rw [c3]; exact congrArg some (Array.ext' e3), .inr ⟨_, _, rfl⟩⟩
    · exact ⟨.iface u4 v4, by rw [c4]; exact congrArg some (Array.ext' e4), .inr ⟨_, _, rfl⟩⟩
theorem fnNumbers_own : ownKnob Tryz.prog.godebug = Option.none := by kernel_rfl
theorem fnNumbers_laidOut : laidOutB Tryz.prog = true := by kernel_rfl
set_option maxRecDepth 100000 in
theorem fnNumbers_lifted (os : Os) (started : os.Started) (H : Type) (enc : TypeId × Value → H) :
    ReturnsInHanded {} Tryz.checked os 4 .any (fun w args => (Rows.fnNumbersSpec.pre enc Tryz.prog Tryz.f4 Rows.fnNumbersRow.domain false w args ∧ laidMetH Tryz.prog Rows.fnNumbersRow.laid w) ∧ sizedMet enc Tryz.prog Tryz.f4 (OpenSpec.ofChange Rows.fnNumbersSpec) false w args) (Rows.fnNumbersSpec.post enc Tryz.prog Tryz.f4 false true false false) := by
  refine returnsInHanded_of_change_and (C := Tryz.checked) (X := fun w _ => laidMetH Tryz.prog Rows.fnNumbersRow.laid w) (fun _ _ _ hh h => h.of_heap hh) fnNumbers_own started (by kernel_rfl) Tryz.func4
    (ChangeSpec.witness_shaped (enc := enc) (C := Tryz.checked) (os := os) (X := fun w _ => laidMetH Tryz.prog Rows.fnNumbersRow.laid w) false (World.laidAll Tryz.prog os Rows.fnNumbersRow.laid) #[(Go.Value.slice none 0 0), (Go.Value.slice none 0 0)] 12 (World.laidAll_os _ _ _)
      (World.shaped_of_ZipB (by kernel_rfl) (by kernel_rfl)) (by kernel_rfl) (by kernel_rfl) (by kernel_rfl)
      (by rw [MakeChecks.laidMetH_plain _ _ _ (by kernel_rfl)]; exact laidMet_laidAll _ (by kernel_rfl) (by kernel_rfl))) ?_
  intro W base args ds gs before hval0 hW hcnd _ hLaid _
  have hval : ∀ (j : Nat) t v, Tryz.f4.params[j]? = some t → args[j]? = some v → Value.okWide Tryz.prog W .any base t v := hval0
  have hW' := hW
  obtain ⟨p, q, hA0, hV, rfl, hfz, hnd⟩ := hW
  have hA : DataW.TrodAll enc Tryz.prog W 0 (fun _ => true) true Tryz.f4.params.toList args.toList ds p := hA0
  rw [Tryz.params4] at hA hval
  have hG : GlobsIn W := fnNumbers_globs hLaid
  have hA1 : DataW.TrodAll enc Tryz.prog W 0 (fun _ => true) true [22, 22] args.toList ds p := hA
  obtain ⟨v0, vs0, d0, ds0, p0, q0, e0, rfl, rfl, h0, hA2⟩ := trodAll_cons hA1
  obtain ⟨v1, vs1, d1, ds1, p1, q1, e1, rfl, rfl, h1, hA3⟩ := trodAll_cons hA2
  subst e1
  have eE : vs1 = [] ∧ ds1 = [] := by
    cases vs1 <;> cases ds1 <;> simp_all [DataW.TrodAll]
  obtain ⟨rfl, rfl⟩ := eE
  have hargs : args = #[v0, v1] := by apply Array.ext'; simpa using e0
  subst hargs
  obtain ⟨rfl, rfl⟩ := trodVars_none hV
  obtain ⟨a0, w0, hv0⟩ := open_one hG (cells_slice pun22 (hval 0 22 v0 rfl rfl)) op22 h0
  obtain ⟨a1, w1, hv1⟩ := open_one hG (cells_slice pun22 (hval 1 22 v1 rfl rfl)) op22 h1
  refine (law_run (w_FnNumbers_ok a0 a1 true (w_FnNumbers_true a0 a1 w0.2 w1.2 w0.1 w1.1)) (VLc hv0 (VLc hv1 VLn))).mono fun e W' ⟨he, hb⟩ => ?_
  subst he
  exact ⟨_, rfl, law_post hW' rfl rfl rfl pun4 fnNumbers_laidOut (by simp only [Tryz.params4]; decide +kernel) hb⟩
theorem fnNumbers_holds : Rows.FnNumbersSaid :=
  OpenClaim.holds_of_wide 4 Tryz.f4 rfl rfl rfl rfl rfl rfl rfl ⟨rfl, rfl, rfl, rfl, rfl⟩ rfl rfl rfl rfl rfl (by kernel_rfl) Tryz.func4 (by kernel_rfl)
    (of_decide_eq_true (by kernel_rfl)) (by unfold Func.isWrapper; first | (rw [if_pos (by decide +kernel)]; kernel_rfl) | (rw [if_neg (by decide +kernel)]; exact ⟨rfl, rfl⟩))
    (fun os started H enc _ => fnNumbers_lifted os started H enc)
/-- The tied card. -/
theorem fnNumbers_card_holds : Rows.FnNumbersCardSaid :=
  Claim7.holds_tied_plain_at .later [] [.data, .data, .data, .data, .sentinel, .sentinel, .pinned] true (true, "c33793751e93485a832540055b16f9261b137d7f120921e9b9f5204af1d9fa8a") true
    fnNumbers_holds (fun _ h => by cases h) (by kernel_rfl) (fun _ h => by cases h) fnNumbers_row_tie rfl ⟨rfl, rfl⟩ (by kernel_rfl) rfl
    (fun f fn hf hfn => by
      obtain rfl : f = 4 := Option.some.inj ((show Tryz.prog.funcNamed "loop.example/g01327/laws.FnNumbers" = some 4 by kernel_rfl).symm.trans hf) |>.symm
      obtain rfl : fn = Tryz.f4 := (Option.some.inj (Tryz.func4.symm.trans hfn)).symm
      exact ⟨by kernel_rfl, fun j t ht => by
        rw [Tryz.params4] at ht
        rcases j with _ | j
        · have h3 : t = 22 := by simpa using ht.symm
          subst h3
          exact (show Tryz.prog.wantsStandIn 22 = false by kernel_rfl)
        rcases j with _ | j
        · have h3 : t = 22 := by simpa using ht.symm
          subst h3
          exact (show Tryz.prog.wantsStandIn 22 = false by kernel_rfl)
        simp at ht⟩)
    (by kernel_rfl)
#print axioms fnNumbers_card_holds
end Go.Proofs.YtcjbfpoaidjpaaaGreatDoor
