/- Generated. -/
import Derived.Test.YtfhbfpdeafpelaaG0
namespace Go.Proofs.Ytfhbfpdeafpelaa
open Go Go.AM Go.AM.AV
set_option maxRecDepth 20000
set_option maxHeartbeats 4000000
set_option linter.unusedVariables false
set_option linter.unusedSimpArgs false
noncomputable section

def K10_k5 (v16 : Int) (L21 : List Int) (L22 : List F) : Option (LR ((List Int) × (List F) × Int) ((List Int) × (List F)) (Int × Bool × (List (Int × Int × F)) × (List Int) × (List Int) × (List F))) :=
 olet (IntKind.i64.wrap (v16 + 1)) fun (x26 : Int) =>
 some (LR.next (L21, L22, x26))
def K10_b6 (a0 : Int) (a1 : List (Int × Int × F)) (v9 : Int) (L14 : List Int) (L15 : List F) (v16 : Int) : Option (LR ((List Int) × (List F) × Int) ((List Int) × (List F)) (Int × Bool × (List (Int × Int × F)) × (List Int) × (List Int) × (List F))) :=
 bsel (decide (v16 < a0)) (
  bsel ((mget a1 v9 v16).isSome) (
   need (apok 8 L14.length 1) <|
   need (apok 4 L15.length 1) <|
   K10_k5 v16 (L14 ++ ([v16] : List Int)) (L15 ++ ([((mget a1 v9 v16).getD (some 0))] : List F))) (
   K10_k5 v16 L14 L15)) (
  some (LR.out (L14, L15)))
def K10_s6 (a0 : Int) (a1 : List (Int × Int × F)) (v9 : Int) : ((List Int) × (List F) × Int) → Option (LR ((List Int) × (List F) × Int) ((List Int) × (List F)) (Int × Bool × (List (Int × Int × F)) × (List Int) × (List Int) × (List F))) := fun s => K10_b6 a0 a1 v9 s.1 s.2.1 s.2.2
def K10_k6 (L6 : List Int) (v9 : Int) (L34 : List Int) (L35 : List F) : Option (LR ((List Int) × (List Int) × (List F) × Int) ((List Int) × (List Int) × (List F)) (Int × Bool × (List (Int × Int × F)) × (List Int) × (List Int) × (List F))) :=
 obind (K0e L34) fun (r36 : Int) =>
 need (apok 8 L6.length 1) <|
 olet (IntKind.i64.wrap (v9 + 1)) fun (x37 : Int) =>
 some (LR.next ((L6 ++ ([r36] : List Int)), L34, L35, x37))
def K10_b7 (a0 : Int) (a1 : List (Int × Int × F)) (L6 : List Int) (L7 : List Int) (L8 : List F) (v9 : Int) : Option (LR ((List Int) × (List Int) × (List F) × Int) ((List Int) × (List Int) × (List F)) (Int × Bool × (List (Int × Int × F)) × (List Int) × (List Int) × (List F))) :=
 bsel (decide (v9 < a0)) (
  obind (loopM (K10_s6 a0 a1 v9) (L7, L8, 0)) fun z => osum z (fun e => K10_k6 L6 v9 e.1 e.2) (fun r => some (LR.ret r))) (
  some (LR.out (L6, L7, L8)))
def K10_s7 (a0 : Int) (a1 : List (Int × Int × F)) : ((List Int) × (List Int) × (List F) × Int) → Option (LR ((List Int) × (List Int) × (List F) × Int) ((List Int) × (List Int) × (List F)) (Int × Bool × (List (Int × Int × F)) × (List Int) × (List Int) × (List F))) := fun s => K10_b7 a0 a1 s.1 s.2.1 s.2.2.1 s.2.2.2
def K10_k7 (a0 : Int) (a1 : List (Int × Int × F)) (L43 : List Int) (L47 : List Int) (L48 : List F) : Option (Int × Bool × (List (Int × Int × F)) × (List Int) × (List Int) × (List F)) :=
 obind (K0w a0 L43 L47 L48) fun (r49 : Bool) =>
 bsel r49 (
  some (a0, true, a1, L43, L47, L48)) (
  some (0, false, a1, ([] : List Int), ([] : List Int), ([] : List F)))
def K10 (a0 : Int) (a1 : List (Int × Int × F)) : Option (Int × Bool × (List (Int × Int × F)) × (List Int) × (List Int) × (List F)) :=
 obind (loopM (K10_s7 a0 a1) (([0] : List Int), ([] : List Int), ([] : List F), 0)) fun z => osum z (fun e => K10_k7 a0 a1 e.1 e.2.1 e.2.2) (fun r => some r)
abbrev z014 : Ob := ⟨1, some [i64 0, oref 4 1 0 0, oref 5 1 0 0, oref 6 1 0 0]⟩
abbrev z015 (a0 : Int) (u1 : Nat) (L6 : List Int) (u10 : Nat) (L14 : List Int) (u11 : Nat) (L15 : List F) : Ob := ⟨1, some [i64 a0, oref 2 u1 0 L6.length, oref 7 u10 0 L14.length, oref 8 u11 0 L15.length]⟩
abbrev z016 (a1 : List (Int × Int × F)) (u1 : Nat) (L6 : List Int) (a0 : Int) (u10 : Nat) (L14 : List Int) (u11 : Nat) (L15 : List F) (u12 : Nat) (v16 : Int) (u13 : Nat) (v9 : Int) : List Ob := [⟨0, some (mpc a1)⟩, z014, oJ u1 L6, (z015 a0 u1 L6 u10 L14 u11 L15), oJ 1 [], oJ 1 [], oF 1 [], oJ u10 L14, oF u11 L15, oJ (u12 + 1) [v16], oF (u13 + 1) [((mget a1 v9 v16).getD (some 0))], o0]
abbrev z017 (a1 : List (Int × Int × F)) (u1 : Nat) (L6 : List Int) (a0 : Int) (u10 : Nat) (L14 : List Int) (u11 : Nat) (L15 : List F) (u12 : Nat) (u13 : Nat) (v9 : Int) (v16 : Int) : List Ob := [⟨0, some (mpc a1)⟩, z014, oJ u1 L6, (z015 a0 u1 L6 u10 L14 u11 L15), oJ 1 [], oJ 1 [], oF 1 [], oJ u10 L14, oF u11 L15, ⟨u12, none⟩, oF (u13 + 1) [((mget a1 v9 v16).getD (some 0))], o0]
abbrev z018 (a1 : List (Int × Int × F)) (u1 : Nat) (L6 : List Int) (a0 : Int) (u10 : Nat) (L14 : List Int) (u11 : Nat) (L15 : List F) (v16 : Int) (u12 : Nat) (u13 : Nat) (v9 : Int) : List Ob := [⟨0, some (mpc a1)⟩, z014, oJ u1 L6, (z015 a0 u1 L6 u10 L14 u11 L15), oJ 1 [], oJ 1 [], oF 1 [], oJ (u10 + 1) (L14 ++ [v16]), oF u11 L15, oJ (u12 + 1) [v16], oF (u13 + 1) [((mget a1 v9 v16).getD (some 0))], o0]
abbrev z019 (a1 : List (Int × Int × F)) (u1 : Nat) (L6 : List Int) (a0 : Int) (u10 : Nat) (L14 : List Int) (u11 : Nat) (L15 : List F) (u12 : Nat) (v16 : Int) (u13 : Nat) : List Ob := [⟨0, some (mpc a1)⟩, z014, oJ u1 L6, (z015 a0 u1 L6 u10 L14 u11 L15), oJ 1 [], oJ 1 [], oF 1 [], oJ u10 L14, oF u11 L15, oJ (u12 + 1) [v16], ⟨u13, none⟩, o0]
abbrev z01a (a0 : Int) (u38 : Nat) (L43 : List Int) (u39 : Nat) (L47 : List Int) (u40 : Nat) (L48 : List F) : List AV := [i64 a0, oref 2 u38 0 L43.length, oref 7 u39 0 L47.length, oref 8 u40 0 L48.length]
abbrev z01b : List AV := [i64 0, nilsl, nilsl, nilsl]
abbrev z01c (a0 : Int) : List AV := [i64 a0, oref 2 1 0 1, nilsl, nilsl]
abbrev z01d (a1 : List (Int × Int × F)) (v9 : Int) (v16 : Int) : List AV := [f32 ((mget a1 v9 v16).getD (some 0))]
abbrev z01e (a1 : List (Int × Int × F)) (v9 : Int) (v16 : Int) : AV := tup [f32 ((mget a1 v9 v16).getD (some 0)), b ((mget a1 v9 v16).isSome)]
abbrev z01f (a1 : List (Int × Int × F)) (u1 : Nat) (L6 : List Int) (a0 : Int) (u10 : Nat) (L14 : List Int) (u11 : Nat) (L15 : List F) (v16 : Int) (u12 : Nat) (u13 : Nat) : List Ob := [⟨0, some (mpc a1)⟩, z014, oJ u1 L6, (z015 a0 u1 L6 u10 L14 u11 L15), oJ 1 [], oJ 1 [], oF 1 [], oJ (u10 + 1) (L14 ++ [v16]), oF u11 L15, oJ (u12 + 1) [v16], ⟨u13, none⟩, o0]
theorem K10_ok (a0 : Int) (a1 : List (Int × Int × F)) (q0 : Int) (q1 : Bool) (q2 : List (Int × Int × F)) (q3 : List Int) (q4 : List Int) (q5 : List F) (h : K10 a0 a1 = some (q0, q1, q2, q3, q4, q5)) : Ev Try.prog 100 [i64 a0, mref 0 0] [⟨0, some (mpc a1)⟩] (tup [agg [i64 q0, oref 1 0 0 q3.length, oref 2 0 0 q4.length, oref 3 0 0 q5.length], b q1]) [⟨0, some (mpc q2)⟩, oJ 0 q3, oJ 0 q4, oF 0 q5] := by
 refine Ev.start Try.func100 rfl rfl 11 (τ := [(0, i64 a0), (1, mref 0 0)]) rfl (Γ' := [⟨0, some (mpc a1)⟩, o0, o0, o0, o0, o0, o0, o0, o0, o0, o0, o0]) rfl (n := 116) rfl (g := 1) rfl (by decide) ?_
 unfold K10 at h
 refine zQ<|ye rfl (optr 1 1 0) ([⟨0, some (mpc a1)⟩, ⟨1, some z01b⟩, o0, o0, o0, o0, o0, o0, o0, o0, o0, o0]) (TOp.alloc_o (g := o0) 1 rfl zer30 zok30 rfl)<|ya rfl (b false)<|zN ?_
 refine zQ<|ym rfl (i64 a0)<|ye rfl (oref 2 1 0 1) ([⟨0, some (mpc a1)⟩, ⟨1, some z01b⟩, oJ 1 [0], o0, o0, o0, o0, o0, o0, o0, o0, o0]) (TOp.buildSlice_o (g := o0) (za := i64 0) (qs := [(0, [i64 0])]) 2 rfl und22 siz2 zer2 rfl zel2 rfl rfl ⟨rfl, ⟨_, ALe.refl _, rfl⟩, trivial⟩ rfl)<|yl rfl (agg (z01c a0)) (LOp.build (qs := [(0, [i64 a0]), (1, [oref 2 1 0 1])]) zer30 zok30 und30 plc30 rfl ⟨rfl, ⟨_, ALe.refl _, rfl⟩, ⟨rfl, ⟨_, ALe.refl _, rfl⟩, trivial⟩⟩ rfl)<|ye rfl (optr 3 1 0) ([⟨0, some (mpc a1)⟩, ⟨1, some z01b⟩, oJ 1 [0], ⟨1, some z01b⟩, o0, o0, o0, o0, o0, o0, o0, o0]) (TOp.alloc_o (g := o0) 3 rfl zer30 zok30 rfl)<|ys (agg (z01c a0)) (z01c a0) ([⟨0, some (mpc a1)⟩, ⟨1, some z01b⟩, oJ 1 [0], ⟨1, some (z01c a0)⟩, o0, o0, o0, o0, o0, o0, o0, o0]) siz30<|zN ?_
 refine yS<|zQ<|ym rfl (i64 a0)<|ym rfl (i64 0)<|zN ?_
 refine RunC.nil_cell (l' := [i64 0, oref 4 1 0 0, nilsl, nilsl]) (Γ' := [⟨0, some (mpc a1)⟩, ⟨1, some [i64 0, oref 4 1 0 0, nilsl, nilsl]⟩, oJ 1 [0], ⟨1, some (z01c a0)⟩, oJ 1 [], o0, o0, o0, o0, o0, o0, o0]) 1 1 4 rfl rfl rfl rfl rfl<|RunC.nil_cell (l' := [i64 0, oref 4 1 0 0, oref 5 1 0 0, nilsl]) (Γ' := [⟨0, some (mpc a1)⟩, ⟨1, some [i64 0, oref 4 1 0 0, oref 5 1 0 0, nilsl]⟩, oJ 1 [0], ⟨1, some (z01c a0)⟩, oJ 1 [], oJ 1 [], o0, o0, o0, o0, o0, o0]) 1 2 5 rfl rfl rfl rfl rfl<|RunC.nil_cell (l' := [i64 0, oref 4 1 0 0, oref 5 1 0 0, oref 6 1 0 0]) (Γ' := [⟨0, some (mpc a1)⟩, z014, oJ 1 [0], ⟨1, some (z01c a0)⟩, oJ 1 [], oJ 1 [], oF 1 [], o0, o0, o0, o0, o0]) 1 3 6 rfl rfl rfl rfl rfl<|RunC.nil_cell (l' := [i64 a0, oref 2 1 0 1, oref 7 1 0 0, nilsl]) (Γ' := [⟨0, some (mpc a1)⟩, z014, oJ 1 [0], ⟨1, some [i64 a0, oref 2 1 0 1, oref 7 1 0 0, nilsl]⟩, oJ 1 [], oJ 1 [], oF 1 [], oJ 1 [], o0, o0, o0, o0]) 3 2 7 rfl rfl rfl rfl rfl<|RunC.nil_cell (l' := [i64 a0, oref 2 1 0 1, oref 7 1 0 0, oref 8 1 0 0]) (Γ' := [⟨0, some (mpc a1)⟩, z014, oJ 1 [0], ⟨1, some [i64 a0, oref 2 1 0 1, oref 7 1 0 0, oref 8 1 0 0]⟩, oJ 1 [], oJ 1 [], oF 1 [], oJ 1 [], oF 1 [], o0, o0, o0]) 3 3 8 rfl rfl rfl rfl rfl ?_
 obtain ⟨z8, hz_8, h⟩ := oS h
 refine RunC.cutN (fun τ Γ => ∃ (L43 : List Int) (L47 : List Int) (L48 : List F) (u38 : Nat) (u39 : Nat) (u40 : Nat) (u41 : Nat) (u42 : Nat), ([] : List Int).length = 0 ∧ ([] : List Int).length = 0 ∧ ([] : List F).length = 0 ∧ WeakLe τ [(4, optr 1 1 0), (6, optr 3 1 0)] ∧ DeadLe Γ [⟨0, some (mpc a1)⟩, z014, oJ u38 L43, ⟨1, some (z01a a0 u38 L43 u39 L47 u40 L48)⟩, oJ 1 [], oJ 1 [], oF 1 [], oJ u39 L47, oF u40 L48, ⟨u41, none⟩, ⟨u42, none⟩, o0] ∧ z8 = .inl (L43, L47, L48)) ?_ ?_
 ·refine RunC.block (RunC.loop (RunL.loopM (x := z8) (K10_s7 a0 a1) (fun (s : (List Int) × (List Int) × (List F) × Int) τ Γ => ∃ (u1 : Nat) (u2 : Nat) (u3 : Nat) (u4 : Nat) (u5 : Nat), WeakLe τ [(0, i64 a0), (1, mref 0 0), (4, optr 1 1 0), (6, optr 3 1 0), (14, i64 a0), (15, i64 s.2.2.2)] ∧ DeadLe Γ [⟨0, some (mpc a1)⟩, z014, ⟨u1, some (s.1.map i64)⟩, ⟨1, some [i64 a0, oref 2 u1 0 s.1.length, oref 7 u2 0 s.2.1.length, oref 8 u3 0 s.2.2.1.length]⟩, oJ 1 [], oJ 1 [], oF 1 [], ⟨u2, some (s.2.1.map i64)⟩, ⟨u3, some (s.2.2.1.map f32)⟩, ⟨u4, none⟩, ⟨u5, none⟩, o0]) ?_ _ _ _ hz_8 ⟨1, 1, 1, 0, 0, ⟨aR, aR, aR, aR, aR, aR, trivial⟩, ⟨dR, dR, dR, ⟨rfl, .inr (by first | rfl | simp)⟩, dR, dR, dR, dR, dR, dL, dL, dR, trivial⟩⟩))
  rintro ⟨L6, L7, L8, v9⟩ τ8 Γ8 y8_ ⟨u1, u2, u3, u4, u5, hw8, hd8⟩ h8_ ho8 hr8
  refine RunC.wl (τ' := [(0, i64 a0), (1, mref 0 0), (4, optr 1 1 0), (6, optr 3 1 0), (14, i64 a0), (15, i64 v9)]) (Γ' := [⟨0, some (mpc a1)⟩, z014, oJ u1 L6, ⟨1, some [i64 a0, oref 2 u1 0 L6.length, oref 7 u2 0 L7.length, oref 8 u3 0 L8.length]⟩, oJ 1 [], oJ 1 [], oF 1 [], oJ u2 L7, oF u3 L8, ⟨u4, none⟩, ⟨u5, none⟩, o0]) hw8 hd8 ?_
  replace h8_ : K10_b7 a0 a1 L6 L7 L8 v9 = some y8_ := h8_
  unfold K10_b7 at h8_
  refine yS ?_
  rcases oB h8_ with ⟨hc1, h8_⟩ | ⟨hc1, h8_⟩
  ·refine yW<|yl rfl (b true) (LOp.eqb (LOp.lss rfl rfl rfl) hc1)<|zN ?_
   refine yS<|yT<|RunC.skip<|yS<|RunC.block<|zQ<|ym rfl (i64 v9)<|ya rfl (i64 v9)<|zN ?_
   refine yS<|zQ<|ym rfl (i64 a0)<|ym rfl (i64 0)<|zN ?_
   obtain ⟨z9, hz_9, h8_⟩ := oS h8_
   refine RunC.cutN (fun τ Γ => ∃ (L34 : List Int) (L35 : List F) (u27 : Nat) (u28 : Nat) (u29 : Nat) (u30 : Nat), ([] : List Int).length = 0 ∧ ([] : List Int).length = 0 ∧ ([] : List F).length = 0 ∧ WeakLe τ [(0, i64 a0), (1, mref 0 0), (4, optr 1 1 0), (6, optr 3 1 0), (14, i64 a0), (15, i64 v9)] ∧ DeadLe Γ [⟨0, some (mpc a1)⟩, z014, oJ u1 L6, ⟨1, some [i64 a0, oref 2 u1 0 L6.length, oref 7 u27 0 L34.length, oref 8 u28 0 L35.length]⟩, oJ 1 [], oJ 1 [], oF 1 [], oJ u27 L34, oF u28 L35, ⟨u29, none⟩, ⟨u30, none⟩, o0] ∧ z9 = .inl (L34, L35)) ?_ ?_
   ·refine RunC.block (RunC.loop (RunL.loopM (x := z9) (K10_s6 a0 a1 v9) (fun (s : (List Int) × (List F) × Int) τ Γ => ∃ (u10 : Nat) (u11 : Nat) (u12 : Nat) (u13 : Nat), WeakLe τ [(0, i64 a0), (1, mref 0 0), (4, optr 1 1 0), (6, optr 3 1 0), (7, i64 v9), (14, i64 a0), (15, i64 v9), (18, i64 a0), (19, i64 s.2.2)] ∧ DeadLe Γ [⟨0, some (mpc a1)⟩, z014, oJ u1 L6, ⟨1, some [i64 a0, oref 2 u1 0 L6.length, oref 7 u10 0 s.1.length, oref 8 u11 0 s.2.1.length]⟩, oJ 1 [], oJ 1 [], oF 1 [], ⟨u10, some (s.1.map i64)⟩, ⟨u11, some (s.2.1.map f32)⟩, ⟨u12, none⟩, ⟨u13, none⟩, o0]) ?_ _ _ _ hz_9 ⟨u2, u3, u4, u5, ⟨aR, aR, aR, aR, aR, aR, aR, aR, aR, trivial⟩, ⟨dR, dR, dR, ⟨rfl, .inr (by first | rfl | simp)⟩, dR, dR, dR, dR, dR, dL, dL, dR, trivial⟩⟩))
    rintro ⟨L14, L15, v16⟩ τ9 Γ9 y9_ ⟨u10, u11, u12, u13, hw9, hd9⟩ h9_ ho9 hr9
    refine RunC.wl (τ' := [(0, i64 a0), (1, mref 0 0), (4, optr 1 1 0), (6, optr 3 1 0), (7, i64 v9), (14, i64 a0), (15, i64 v9), (18, i64 a0), (19, i64 v16)]) (Γ' := [⟨0, some (mpc a1)⟩, z014, oJ u1 L6, (z015 a0 u1 L6 u10 L14 u11 L15), oJ 1 [], oJ 1 [], oF 1 [], oJ u10 L14, oF u11 L15, ⟨u12, none⟩, ⟨u13, none⟩, o0]) hw9 hd9 ?_
    replace h9_ : K10_b6 a0 a1 v9 L14 L15 v16 = some y9_ := h9_
    unfold K10_b6 at h9_
    refine yS ?_
    rcases oB h9_ with ⟨hc2, h9_⟩ | ⟨hc2, h9_⟩
    ·refine yW<|yl rfl (b true) (LOp.eqb (LOp.lss rfl rfl rfl) hc2)<|zN ?_
     refine yS<|yT<|RunC.skip<|yS<|RunC.cutN (fun τ Γ => ∃ (L21 : List Int) (L22 : List F) (u17 : Nat) (u18 : Nat) (u19 : Nat) (u20 : Nat), ([] : List Int).length = 0 ∧ ([] : List Int).length = 0 ∧ ([] : List F).length = 0 ∧ WeakLe τ [(0, i64 a0), (1, mref 0 0), (4, optr 1 1 0), (6, optr 3 1 0), (7, i64 v9), (14, i64 a0), (15, i64 v9), (18, i64 a0), (19, i64 v16)] ∧ DeadLe Γ [⟨0, some (mpc a1)⟩, z014, oJ u1 L6, ⟨1, some [i64 a0, oref 2 u1 0 L6.length, oref 7 u17 0 L21.length, oref 8 u18 0 L22.length]⟩, oJ 1 [], oJ 1 [], oF 1 [], oJ u17 L21, oF u18 L22, ⟨u19, none⟩, ⟨u20, none⟩, o0] ∧ K10_k5 v16 L21 L22 = some y9_) ?_ ?_
     ·refine RunC.block<|zQ<|ym rfl (i64 v16)<|ya rfl (i64 v16)<|zN ?_
      refine yS ?_
      rcases oB h9_ with ⟨hc3, h9_⟩ | ⟨hc3, h9_⟩
      ·refine yW<|ym rfl (mref 0 0)<|ym rfl (i64 v9)<|ym rfl (i64 v16)<|yl rfl (agg [i64 v9, i64 v16]) (LOp.build (qs := [(0, [i64 v9]), (1, [i64 v16])]) zer101 zok101 und101 plc101 rfl ⟨rfl, ⟨_, ALe.refl _, rfl⟩, ⟨rfl, ⟨_, ALe.refl _, rfl⟩, trivial⟩⟩ rfl)<|yd rfl (z01e a1 v9 v16) (TOp.mgetok und98 pky101 zer26 zel26 rfl rfl rfl rfl rfl rfl)<|ym rfl (z01e a1 v9 v16)<|yl rfl (f32 ((mget a1 v9 v16).getD (some 0))) n3<|yl rfl (b true) (LOp.eqb n3 hc3)<|ya rfl (f32 ((mget a1 v9 v16).getD (some 0)))<|ya rfl (b true)<|zN ?_
       refine zQ<|ym rfl (b true)<|zN ?_
       refine yT ?_
       obtain ⟨hm4, h9_⟩ := need_some h9_
       obtain ⟨hm5, h9_⟩ := need_some h9_
       refine RunC.cutN (fun τ Γ => WeakLe τ [(0, i64 a0), (1, mref 0 0), (4, optr 1 1 0), (6, optr 3 1 0), (7, i64 v9), (10, b true), (14, i64 a0), (15, i64 v9), (18, i64 a0), (19, i64 v16), (20, b true), (29, b true), (30, b true)] ∧ DeadLe Γ [⟨0, some (mpc a1)⟩, z014, oJ u1 L6, ⟨1, some [i64 a0, oref 2 u1 0 L6.length, oref 7 (u10 + 1) 0 (L14.length + 1), oref 8 (u11 + 1) 0 (L15.length + 1)]⟩, oJ 1 [], oJ 1 [], oF 1 [], oJ (u10 + 1) (L14 ++ [v16]), oF (u11 + 1) (L15 ++ [((mget a1 v9 v16).getD (some 0))]), oJ (u12 + 1) [v16], oF (u13 + 1) [((mget a1 v9 v16).getD (some 0))], o0]) ?_ ?_
       ·refine RunC.any (n := 14) rfl mixed ?_
        refine RAny.lem 4 #[true, true, true, true, true, true, true, true, true, false, true, false, false, false] [(0, i64 a0), (1, mref 0 0), (4, optr 1 1 0), (6, optr 3 1 0), (7, i64 v9), (10, b true), (14, i64 a0), (15, i64 v9), (18, i64 a0), (19, i64 v16), (20, b true), (29, b true), (30, b true), (35, oref 7 (u10 + 1) 0 (L14.length + 1)), (37, oref 8 u11 0 L15.length), (39, oref 10 (u13 + 1) 0 1), (41, optr 3 1 2)] (z018 a1 u1 L6 a0 u10 L14 u11 L15 v16 u12 u13 v9) ?_ fun s43 => ?_
        ·refine RAny.more (i0 := 9) (l := []) (by kernel_rfl) (RAnys.cons rfl ?_ RAnys.nil)
         refine ROps.app (f := f32) (xs := L15) (ys := ([((mget a1 v9 v16).getD (some 0))] : List F)) (Γ' := [⟨0, some (mpc a1)⟩, z014, oJ u1 L6, (z015 a0 u1 L6 u10 L14 u11 L15), oJ 1 [], oJ 1 [], oF 1 [], oJ (u10 + 1) (L14 ++ [v16]), oF (u11 + 1) (L15 ++ [((mget a1 v9 v16).getD (some 0))]), oJ (u12 + 1) [v16], oF (u13 + 1) [((mget a1 v9 v16).getD (some 0))], o0]) rfl pun23 inf26 rfl rfl rfl rfl rfl rfl rfl rfl rfl (by simp) (ReadAs.own rfl (by simp)) (ones_map (fun _ => rfl)) (ap_by hm5) (ap_mx hm5) rfl<|zN ?_
         refine RAny.more (i0 := 11) (l := []) (by kernel_rfl) (RAnys.cons rfl ?_ RAnys.nil)
         refine ys (oref 7 (u10 + 1) 0 (L14.length + 1)) [i64 a0, oref 2 u1 0 L6.length, oref 7 (u10 + 1) 0 (L14.length + 1), oref 8 u11 0 L15.length] ([⟨0, some (mpc a1)⟩, z014, oJ u1 L6, ⟨1, some [i64 a0, oref 2 u1 0 L6.length, oref 7 (u10 + 1) 0 (L14.length + 1), oref 8 u11 0 L15.length]⟩, oJ 1 [], oJ 1 [], oF 1 [], oJ (u10 + 1) (L14 ++ [v16]), oF (u11 + 1) (L15 ++ [((mget a1 v9 v16).getD (some 0))]), oJ (u12 + 1) [v16], oF (u13 + 1) [((mget a1 v9 v16).getD (some 0))], o0]) siz22<|zN ?_
         refine RAny.take 12 (r := optr 3 1 3) rfl (by kernel_rfl) (by kernel_rfl) (by kernel_rfl) rfl rfl (POp.fao und30 rfl siz23 rfl rfl rfl) ?_
         refine RAny.more (i0 := 13) (l := []) (by kernel_rfl) (RAnys.cons rfl ?_ RAnys.nil)
         refine ys (oref 8 (u11 + 1) 0 (L15.length + 1)) [i64 a0, oref 2 u1 0 L6.length, oref 7 (u10 + 1) 0 (L14.length + 1), oref 8 (u11 + 1) 0 (L15.length + 1)] ([⟨0, some (mpc a1)⟩, z014, oJ u1 L6, ⟨1, some [i64 a0, oref 2 u1 0 L6.length, oref 7 (u10 + 1) 0 (L14.length + 1), oref 8 (u11 + 1) 0 (L15.length + 1)]⟩, oJ 1 [], oJ 1 [], oF 1 [], oJ (u10 + 1) (L14 ++ [v16]), oF (u11 + 1) (L15 ++ [((mget a1 v9 v16).getD (some 0))]), oJ (u12 + 1) [v16], oF (u13 + 1) [((mget a1 v9 v16).getD (some 0))], o0]) siz23<|zN ?_
         refine RAny.done (by kernel_rfl) ?_
         exact ⟨⟨aR, aR, aR, aR, aR, aR, aR, aR, aR, aR, aR, aR, aR, trivial⟩, ⟨dR, dR, dR, dR, dR, dR, dR, dR, dR, dR, dR, dR, trivial⟩⟩
        refine RAny.lem 5 #[true, true, true, true, true, true, true, true, false, false, true, false, false, false] [(0, i64 a0), (1, mref 0 0), (4, optr 1 1 0), (6, optr 3 1 0), (7, i64 v9), (10, b true), (14, i64 a0), (15, i64 v9), (18, i64 a0), (19, i64 v16), (20, b true), (29, b true), (30, b true), (35, oref 7 (u10 + 1) 0 (L14.length + 1)), (37, oref 8 u11 0 L15.length), (38, f32 ((mget a1 v9 v16).getD (some 0))), (41, optr 3 1 2)] (z01f a1 u1 L6 a0 u10 L14 u11 L15 v16 u12 u13) ?_ fun s44 => ?_
        ·refine RAny.more (i0 := 8) (l := []) (by kernel_rfl) (RAnys.cons rfl ?_ RAnys.nil)
         refine ye rfl (oref 10 (u13 + 1) 0 1) ((z018 a1 u1 L6 a0 u10 L14 u11 L15 v16 u12 u13 v9)) (TOp.buildSlice_o (g := ⟨u13, none⟩) (za := f32 (some 0)) (qs := [(0, (z01d a1 v9 v16))]) 10 rfl und23 siz26 zer26 rfl zel26 rfl rfl ⟨rfl, ⟨_, ALe.refl _, rfl⟩, trivial⟩ rfl)<|zN ?_
         exact RAny.use s43 (by kernel_rfl) ⟨aR, aR, aR, aR, aR, aR, aR, aR, aR, aR, aR, aR, aR, aR, aR, aR, aR, trivial⟩
        refine RAny.lem 6 #[true, true, true, true, true, true, false, true, true, false, false, false, false, false] [(0, i64 a0), (1, mref 0 0), (4, optr 1 1 0), (6, optr 3 1 0), (7, i64 v9), (10, b true), (14, i64 a0), (15, i64 v9), (18, i64 a0), (19, i64 v16), (20, b true), (29, b true), (30, b true), (35, oref 7 (u10 + 1) 0 (L14.length + 1)), (36, optr 3 1 3), (39, oref 10 (u13 + 1) 0 1)] (z018 a1 u1 L6 a0 u10 L14 u11 L15 v16 u12 u13 v9) ?_ fun s45 => ?_
        ·refine RAny.more (i0 := 6) (l := []) (by kernel_rfl) (RAnys.cons rfl ?_ RAnys.nil)
         refine yd rfl (oref 8 u11 0 L15.length) (TOp.load1_o rfl rfl agg23 rfl rfl)<|zN ?_
         refine RAny.take 10 (r := optr 3 1 2) rfl (by kernel_rfl) (by kernel_rfl) (by kernel_rfl) rfl rfl (POp.fao und30 rfl siz22 rfl rfl rfl) ?_
         exact RAny.use s43 (by kernel_rfl) ⟨aR, aR, aR, aR, aR, aR, aR, aR, aR, aR, aR, aR, aR, aR, aR, aR, aR, trivial⟩
        refine RAny.lem 6 #[true, true, true, true, false, true, true, true, true, false, false, false, false, false] [(0, i64 a0), (1, mref 0 0), (4, optr 1 1 0), (6, optr 3 1 0), (7, i64 v9), (10, b true), (14, i64 a0), (15, i64 v9), (18, i64 a0), (19, i64 v16), (20, b true), (29, b true), (30, b true), (32, oref 7 u10 0 L14.length), (34, oref 9 (u12 + 1) 0 1), (37, oref 8 u11 0 L15.length), (39, oref 10 (u13 + 1) 0 1)] (z016 a1 u1 L6 a0 u10 L14 u11 L15 u12 v16 u13 v9) ?_ fun s46 => ?_
        ·refine RAny.more (i0 := 4) (l := []) (by kernel_rfl) (RAnys.cons rfl ?_ RAnys.nil)
         refine ROps.app (f := i64) (xs := L14) (ys := ([v16] : List Int)) (Γ' := (z018 a1 u1 L6 a0 u10 L14 u11 L15 v16 u12 u13 v9)) rfl pun22 inf2 rfl rfl rfl rfl rfl rfl rfl rfl rfl (by simp) (ReadAs.own rfl (by simp)) (ones_map (fun _ => rfl)) (ap_by hm4) (ap_mx hm4) rfl<|zN ?_
         refine RAny.take 10 (r := optr 3 1 2) rfl (by kernel_rfl) (by kernel_rfl) (by kernel_rfl) rfl rfl (POp.fao und30 rfl siz22 rfl rfl rfl) ?_
         exact RAny.use s43 (by kernel_rfl) ⟨aR, aR, aR, aR, aR, aR, aR, aR, aR, aR, aR, aR, aR, aR, aR, aR, aR, trivial⟩
        refine RAny.lem 7 #[true, true, true, true, false, true, true, true, false, false, false, false, false, false] [(0, i64 a0), (1, mref 0 0), (4, optr 1 1 0), (6, optr 3 1 0), (7, i64 v9), (10, b true), (14, i64 a0), (15, i64 v9), (18, i64 a0), (19, i64 v16), (20, b true), (29, b true), (30, b true), (32, oref 7 u10 0 L14.length), (34, oref 9 (u12 + 1) 0 1), (37, oref 8 u11 0 L15.length), (38, f32 ((mget a1 v9 v16).getD (some 0)))] (z019 a1 u1 L6 a0 u10 L14 u11 L15 u12 v16 u13) ?_ fun s47 => ?_
        ·refine RAny.more (i0 := 4) (l := [8]) (by kernel_rfl) (RAnys.cons rfl ?_ (RAnys.cons rfl ?_ RAnys.nil))
         ·refine ROps.app (f := i64) (xs := L14) (ys := ([v16] : List Int)) (Γ' := (z01f a1 u1 L6 a0 u10 L14 u11 L15 v16 u12 u13)) rfl pun22 inf2 rfl rfl rfl rfl rfl rfl rfl rfl rfl (by simp) (ReadAs.own rfl (by simp)) (ones_map (fun _ => rfl)) (ap_by hm4) (ap_mx hm4) rfl<|zN ?_
          refine RAny.take 10 (r := optr 3 1 2) rfl (by kernel_rfl) (by kernel_rfl) (by kernel_rfl) rfl rfl (POp.fao und30 rfl siz22 rfl rfl rfl) ?_
          exact RAny.use s44 (by kernel_rfl) ⟨aR, aR, aR, aR, aR, aR, aR, aR, aR, aR, aR, aR, aR, aR, aR, aR, aR, trivial⟩
         ·refine ye rfl (oref 10 (u13 + 1) 0 1) ((z016 a1 u1 L6 a0 u10 L14 u11 L15 u12 v16 u13 v9)) (TOp.buildSlice_o (g := ⟨u13, none⟩) (za := f32 (some 0)) (qs := [(0, (z01d a1 v9 v16))]) 10 rfl und23 siz26 zer26 rfl zel26 rfl rfl ⟨rfl, ⟨_, ALe.refl _, rfl⟩, trivial⟩ rfl)<|zN ?_
          exact RAny.use s46 (by kernel_rfl) ⟨aR, aR, aR, aR, aR, aR, aR, aR, aR, aR, aR, aR, aR, aR, aR, aR, aR, trivial⟩
        refine RAny.lem 7 #[true, true, true, true, false, true, false, true, true, false, false, false, false, false] [(0, i64 a0), (1, mref 0 0), (4, optr 1 1 0), (6, optr 3 1 0), (7, i64 v9), (10, b true), (14, i64 a0), (15, i64 v9), (18, i64 a0), (19, i64 v16), (20, b true), (29, b true), (30, b true), (32, oref 7 u10 0 L14.length), (34, oref 9 (u12 + 1) 0 1), (36, optr 3 1 3), (39, oref 10 (u13 + 1) 0 1)] (z016 a1 u1 L6 a0 u10 L14 u11 L15 u12 v16 u13 v9) ?_ fun s48 => ?_
        ·refine RAny.more (i0 := 4) (l := [6]) (by kernel_rfl) (RAnys.cons rfl ?_ (RAnys.cons rfl ?_ RAnys.nil))
         ·refine ROps.app (f := i64) (xs := L14) (ys := ([v16] : List Int)) (Γ' := (z018 a1 u1 L6 a0 u10 L14 u11 L15 v16 u12 u13 v9)) rfl pun22 inf2 rfl rfl rfl rfl rfl rfl rfl rfl rfl (by simp) (ReadAs.own rfl (by simp)) (ones_map (fun _ => rfl)) (ap_by hm4) (ap_mx hm4) rfl<|zN ?_
          exact RAny.use s45 (by kernel_rfl) ⟨aR, aR, aR, aR, aR, aR, aR, aR, aR, aR, aR, aR, aR, aR, aR, aR, trivial⟩
         ·refine yd rfl (oref 8 u11 0 L15.length) (TOp.load1_o rfl rfl agg23 rfl rfl)<|zN ?_
          exact RAny.use s46 (by kernel_rfl) ⟨aR, aR, aR, aR, aR, aR, aR, aR, aR, aR, aR, aR, aR, aR, aR, aR, aR, trivial⟩
        refine RAny.lem 7 #[true, true, true, false, false, true, true, true, true, false, false, false, false, false] [(0, i64 a0), (1, mref 0 0), (4, optr 1 1 0), (6, optr 3 1 0), (7, i64 v9), (10, b true), (14, i64 a0), (15, i64 v9), (18, i64 a0), (19, i64 v16), (20, b true), (29, b true), (30, b true), (32, oref 7 u10 0 L14.length), (33, i64 v16), (37, oref 8 u11 0 L15.length), (39, oref 10 (u13 + 1) 0 1)] (z017 a1 u1 L6 a0 u10 L14 u11 L15 u12 u13 v9 v16) ?_ fun s49 => ?_
        ·refine RAny.more (i0 := 3) (l := []) (by kernel_rfl) (RAnys.cons rfl ?_ RAnys.nil)
         refine ye rfl (oref 9 (u12 + 1) 0 1) ((z016 a1 u1 L6 a0 u10 L14 u11 L15 u12 v16 u13 v9)) (TOp.buildSlice_o (g := ⟨u12, none⟩) (za := i64 0) (qs := [(0, [i64 v16])]) 9 rfl und22 siz2 zer2 rfl zel2 rfl rfl ⟨rfl, ⟨_, ALe.refl _, rfl⟩, trivial⟩ rfl)<|zN ?_
         exact RAny.use s46 (by kernel_rfl) ⟨aR, aR, aR, aR, aR, aR, aR, aR, aR, aR, aR, aR, aR, aR, aR, aR, aR, trivial⟩
        refine RAny.lem 7 #[true, false, true, true, false, true, true, true, true, false, false, false, false, false] [(0, i64 a0), (1, mref 0 0), (4, optr 1 1 0), (6, optr 3 1 0), (7, i64 v9), (10, b true), (14, i64 a0), (15, i64 v9), (18, i64 a0), (19, i64 v16), (20, b true), (29, b true), (30, b true), (31, optr 3 1 2), (34, oref 9 (u12 + 1) 0 1), (37, oref 8 u11 0 L15.length), (39, oref 10 (u13 + 1) 0 1)] (z016 a1 u1 L6 a0 u10 L14 u11 L15 u12 v16 u13 v9) ?_ fun s50 => ?_
        ·refine RAny.more (i0 := 1) (l := []) (by kernel_rfl) (RAnys.cons rfl ?_ RAnys.nil)
         refine yd rfl (oref 7 u10 0 L14.length) (TOp.load1_o rfl rfl agg22 rfl rfl)<|zN ?_
         exact RAny.use s46 (by kernel_rfl) ⟨aR, aR, aR, aR, aR, aR, aR, aR, aR, aR, aR, aR, aR, aR, aR, aR, aR, trivial⟩
        refine RAny.lem 8 #[true, true, true, true, false, true, false, true, false, false, false, false, false, false] [(0, i64 a0), (1, mref 0 0), (4, optr 1 1 0), (6, optr 3 1 0), (7, i64 v9), (10, b true), (14, i64 a0), (15, i64 v9), (18, i64 a0), (19, i64 v16), (20, b true), (29, b true), (30, b true), (32, oref 7 u10 0 L14.length), (34, oref 9 (u12 + 1) 0 1), (36, optr 3 1 3), (38, f32 ((mget a1 v9 v16).getD (some 0)))] (z019 a1 u1 L6 a0 u10 L14 u11 L15 u12 v16 u13) ?_ fun s51 => ?_
        ·refine RAny.more (i0 := 4) (l := [6, 8]) (by kernel_rfl) (RAnys.cons rfl ?_ (RAnys.cons rfl ?_ (RAnys.cons rfl ?_ RAnys.nil)))
         ·refine ROps.app (f := i64) (xs := L14) (ys := ([v16] : List Int)) (Γ' := (z01f a1 u1 L6 a0 u10 L14 u11 L15 v16 u12 u13)) rfl pun22 inf2 rfl rfl rfl rfl rfl rfl rfl rfl rfl (by simp) (ReadAs.own rfl (by simp)) (ones_map (fun _ => rfl)) (ap_by hm4) (ap_mx hm4) rfl<|zN ?_
          refine RAny.more (i0 := 6) (l := [8]) (by kernel_rfl) (RAnys.cons rfl ?_ (RAnys.cons rfl ?_ RAnys.nil))
          ·refine yd rfl (oref 8 u11 0 L15.length) (TOp.load1_o rfl rfl agg23 rfl rfl)<|zN ?_
           refine RAny.take 10 (r := optr 3 1 2) rfl (by kernel_rfl) (by kernel_rfl) (by kernel_rfl) rfl rfl (POp.fao und30 rfl siz22 rfl rfl rfl) ?_
           exact RAny.use s44 (by kernel_rfl) ⟨aR, aR, aR, aR, aR, aR, aR, aR, aR, aR, aR, aR, aR, aR, aR, aR, aR, trivial⟩
          ·refine ye rfl (oref 10 (u13 + 1) 0 1) ((z018 a1 u1 L6 a0 u10 L14 u11 L15 v16 u12 u13 v9)) (TOp.buildSlice_o (g := ⟨u13, none⟩) (za := f32 (some 0)) (qs := [(0, (z01d a1 v9 v16))]) 10 rfl und23 siz26 zer26 rfl zel26 rfl rfl ⟨rfl, ⟨_, ALe.refl _, rfl⟩, trivial⟩ rfl)<|zN ?_
           exact RAny.use s45 (by kernel_rfl) ⟨aR, aR, aR, aR, aR, aR, aR, aR, aR, aR, aR, aR, aR, aR, aR, aR, trivial⟩
         ·refine yd rfl (oref 8 u11 0 L15.length) (TOp.load1_o rfl rfl agg23 rfl rfl)<|zN ?_
          exact RAny.use s47 (by kernel_rfl) ⟨aR, aR, aR, aR, aR, aR, aR, aR, aR, aR, aR, aR, aR, aR, aR, aR, aR, trivial⟩
         ·refine ye rfl (oref 10 (u13 + 1) 0 1) ((z016 a1 u1 L6 a0 u10 L14 u11 L15 u12 v16 u13 v9)) (TOp.buildSlice_o (g := ⟨u13, none⟩) (za := f32 (some 0)) (qs := [(0, (z01d a1 v9 v16))]) 10 rfl und23 siz26 zer26 rfl zel26 rfl rfl ⟨rfl, ⟨_, ALe.refl _, rfl⟩, trivial⟩ rfl)<|zN ?_
          exact RAny.use s48 (by kernel_rfl) ⟨aR, aR, aR, aR, aR, aR, aR, aR, aR, aR, aR, aR, aR, aR, aR, aR, aR, trivial⟩
        refine RAny.lem 8 #[true, true, true, false, false, true, true, true, false, false, false, false, false, false] [(0, i64 a0), (1, mref 0 0), (4, optr 1 1 0), (6, optr 3 1 0), (7, i64 v9), (10, b true), (14, i64 a0), (15, i64 v9), (18, i64 a0), (19, i64 v16), (20, b true), (29, b true), (30, b true), (32, oref 7 u10 0 L14.length), (33, i64 v16), (37, oref 8 u11 0 L15.length), (38, f32 ((mget a1 v9 v16).getD (some 0)))] [⟨0, some (mpc a1)⟩, z014, oJ u1 L6, (z015 a0 u1 L6 u10 L14 u11 L15), oJ 1 [], oJ 1 [], oF 1 [], oJ u10 L14, oF u11 L15, ⟨u12, none⟩, ⟨u13, none⟩, o0] ?_ fun s52 => ?_
        ·refine RAny.more (i0 := 3) (l := [8]) (by kernel_rfl) (RAnys.cons rfl ?_ (RAnys.cons rfl ?_ RAnys.nil))
         ·refine ye rfl (oref 9 (u12 + 1) 0 1) ((z019 a1 u1 L6 a0 u10 L14 u11 L15 u12 v16 u13)) (TOp.buildSlice_o (g := ⟨u12, none⟩) (za := i64 0) (qs := [(0, [i64 v16])]) 9 rfl und22 siz2 zer2 rfl zel2 rfl rfl ⟨rfl, ⟨_, ALe.refl _, rfl⟩, trivial⟩ rfl)<|zN ?_
          exact RAny.use s47 (by kernel_rfl) ⟨aR, aR, aR, aR, aR, aR, aR, aR, aR, aR, aR, aR, aR, aR, aR, aR, aR, trivial⟩
         ·refine ye rfl (oref 10 (u13 + 1) 0 1) ((z017 a1 u1 L6 a0 u10 L14 u11 L15 u12 u13 v9 v16)) (TOp.buildSlice_o (g := ⟨u13, none⟩) (za := f32 (some 0)) (qs := [(0, (z01d a1 v9 v16))]) 10 rfl und23 siz26 zer26 rfl zel26 rfl rfl ⟨rfl, ⟨_, ALe.refl _, rfl⟩, trivial⟩ rfl)<|zN ?_
          exact RAny.use s49 (by kernel_rfl) ⟨aR, aR, aR, aR, aR, aR, aR, aR, aR, aR, aR, aR, aR, aR, aR, aR, aR, trivial⟩
        refine RAny.lem 8 #[true, true, true, false, false, true, false, true, true, false, false, false, false, false] [(0, i64 a0), (1, mref 0 0), (4, optr 1 1 0), (6, optr 3 1 0), (7, i64 v9), (10, b true), (14, i64 a0), (15, i64 v9), (18, i64 a0), (19, i64 v16), (20, b true), (29, b true), (30, b true), (32, oref 7 u10 0 L14.length), (33, i64 v16), (36, optr 3 1 3), (39, oref 10 (u13 + 1) 0 1)] (z017 a1 u1 L6 a0 u10 L14 u11 L15 u12 u13 v9 v16) ?_ fun s53 => ?_
        ·refine RAny.more (i0 := 3) (l := [6]) (by kernel_rfl) (RAnys.cons rfl ?_ (RAnys.cons rfl ?_ RAnys.nil))
         ·refine ye rfl (oref 9 (u12 + 1) 0 1) ((z016 a1 u1 L6 a0 u10 L14 u11 L15 u12 v16 u13 v9)) (TOp.buildSlice_o (g := ⟨u12, none⟩) (za := i64 0) (qs := [(0, [i64 v16])]) 9 rfl und22 siz2 zer2 rfl zel2 rfl rfl ⟨rfl, ⟨_, ALe.refl _, rfl⟩, trivial⟩ rfl)<|zN ?_
          exact RAny.use s48 (by kernel_rfl) ⟨aR, aR, aR, aR, aR, aR, aR, aR, aR, aR, aR, aR, aR, aR, aR, aR, aR, trivial⟩
         ·refine yd rfl (oref 8 u11 0 L15.length) (TOp.load1_o rfl rfl agg23 rfl rfl)<|zN ?_
          exact RAny.use s49 (by kernel_rfl) ⟨aR, aR, aR, aR, aR, aR, aR, aR, aR, aR, aR, aR, aR, aR, aR, aR, aR, trivial⟩
        refine RAny.lem 8 #[true, false, true, true, false, true, true, true, false, false, false, false, false, false] [(0, i64 a0), (1, mref 0 0), (4, optr 1 1 0), (6, optr 3 1 0), (7, i64 v9), (10, b true), (14, i64 a0), (15, i64 v9), (18, i64 a0), (19, i64 v16), (20, b true), (29, b true), (30, b true), (31, optr 3 1 2), (34, oref 9 (u12 + 1) 0 1), (37, oref 8 u11 0 L15.length), (38, f32 ((mget a1 v9 v16).getD (some 0)))] (z019 a1 u1 L6 a0 u10 L14 u11 L15 u12 v16 u13) ?_ fun s54 => ?_
        ·refine RAny.more (i0 := 1) (l := [8]) (by kernel_rfl) (RAnys.cons rfl ?_ (RAnys.cons rfl ?_ RAnys.nil))
         ·refine yd rfl (oref 7 u10 0 L14.length) (TOp.load1_o rfl rfl agg22 rfl rfl)<|zN ?_
          exact RAny.use s47 (by kernel_rfl) ⟨aR, aR, aR, aR, aR, aR, aR, aR, aR, aR, aR, aR, aR, aR, aR, aR, aR, trivial⟩
         ·refine ye rfl (oref 10 (u13 + 1) 0 1) ((z016 a1 u1 L6 a0 u10 L14 u11 L15 u12 v16 u13 v9)) (TOp.buildSlice_o (g := ⟨u13, none⟩) (za := f32 (some 0)) (qs := [(0, (z01d a1 v9 v16))]) 10 rfl und23 siz26 zer26 rfl zel26 rfl rfl ⟨rfl, ⟨_, ALe.refl _, rfl⟩, trivial⟩ rfl)<|zN ?_
          exact RAny.use s50 (by kernel_rfl) ⟨aR, aR, aR, aR, aR, aR, aR, aR, aR, aR, aR, aR, aR, aR, aR, aR, aR, trivial⟩
        refine RAny.lem 8 #[true, false, true, true, false, true, false, true, true, false, false, false, false, false] [(0, i64 a0), (1, mref 0 0), (4, optr 1 1 0), (6, optr 3 1 0), (7, i64 v9), (10, b true), (14, i64 a0), (15, i64 v9), (18, i64 a0), (19, i64 v16), (20, b true), (29, b true), (30, b true), (31, optr 3 1 2), (34, oref 9 (u12 + 1) 0 1), (36, optr 3 1 3), (39, oref 10 (u13 + 1) 0 1)] (z016 a1 u1 L6 a0 u10 L14 u11 L15 u12 v16 u13 v9) ?_ fun s55 => ?_
        ·refine RAny.more (i0 := 1) (l := [6]) (by kernel_rfl) (RAnys.cons rfl ?_ (RAnys.cons rfl ?_ RAnys.nil))
         ·refine yd rfl (oref 7 u10 0 L14.length) (TOp.load1_o rfl rfl agg22 rfl rfl)<|zN ?_
          exact RAny.use s48 (by kernel_rfl) ⟨aR, aR, aR, aR, aR, aR, aR, aR, aR, aR, aR, aR, aR, aR, aR, aR, aR, trivial⟩
         ·refine yd rfl (oref 8 u11 0 L15.length) (TOp.load1_o rfl rfl agg23 rfl rfl)<|zN ?_
          exact RAny.use s50 (by kernel_rfl) ⟨aR, aR, aR, aR, aR, aR, aR, aR, aR, aR, aR, aR, aR, aR, aR, aR, aR, trivial⟩
        refine RAny.lem 8 #[true, false, true, false, false, true, true, true, true, false, false, false, false, false] [(0, i64 a0), (1, mref 0 0), (4, optr 1 1 0), (6, optr 3 1 0), (7, i64 v9), (10, b true), (14, i64 a0), (15, i64 v9), (18, i64 a0), (19, i64 v16), (20, b true), (29, b true), (30, b true), (31, optr 3 1 2), (33, i64 v16), (37, oref 8 u11 0 L15.length), (39, oref 10 (u13 + 1) 0 1)] (z017 a1 u1 L6 a0 u10 L14 u11 L15 u12 u13 v9 v16) ?_ fun s56 => ?_
        ·refine RAny.more (i0 := 1) (l := [3]) (by kernel_rfl) (RAnys.cons rfl ?_ (RAnys.cons rfl ?_ RAnys.nil))
         ·refine yd rfl (oref 7 u10 0 L14.length) (TOp.load1_o rfl rfl agg22 rfl rfl)<|zN ?_
          exact RAny.use s49 (by kernel_rfl) ⟨aR, aR, aR, aR, aR, aR, aR, aR, aR, aR, aR, aR, aR, aR, aR, aR, aR, trivial⟩
         ·refine ye rfl (oref 9 (u12 + 1) 0 1) ((z016 a1 u1 L6 a0 u10 L14 u11 L15 u12 v16 u13 v9)) (TOp.buildSlice_o (g := ⟨u12, none⟩) (za := i64 0) (qs := [(0, [i64 v16])]) 9 rfl und22 siz2 zer2 rfl zel2 rfl rfl ⟨rfl, ⟨_, ALe.refl _, rfl⟩, trivial⟩ rfl)<|zN ?_
          exact RAny.use s50 (by kernel_rfl) ⟨aR, aR, aR, aR, aR, aR, aR, aR, aR, aR, aR, aR, aR, aR, aR, aR, aR, trivial⟩
        refine RAny.take 0 (r := optr 3 1 2) rfl (by kernel_rfl) (by kernel_rfl) (by kernel_rfl) rfl rfl (POp.fao und30 rfl siz22 rfl rfl rfl)<|RAny.take 2 (r := i64 v16) rfl (by kernel_rfl) (by kernel_rfl) (by kernel_rfl) rfl rfl (POp.move rfl rfl)<|RAny.take 5 (r := optr 3 1 3) rfl (by kernel_rfl) (by kernel_rfl) (by kernel_rfl) rfl rfl (POp.fao und30 rfl siz23 rfl rfl rfl)<|RAny.take 7 (r := f32 ((mget a1 v9 v16).getD (some 0))) rfl (by kernel_rfl) (by kernel_rfl) (by kernel_rfl) rfl rfl (POp.move rfl rfl) ?_
        refine RAny.more (i0 := 1) (l := [3, 6, 8]) (by kernel_rfl) (RAnys.cons rfl ?_ (RAnys.cons rfl ?_ (RAnys.cons rfl ?_ (RAnys.cons rfl ?_ RAnys.nil))))
        ·refine yd rfl (oref 7 u10 0 L14.length) (TOp.load1_o rfl rfl agg22 rfl rfl)<|zN ?_
         refine RAny.more (i0 := 3) (l := [6, 8]) (by kernel_rfl) (RAnys.cons rfl ?_ (RAnys.cons rfl ?_ (RAnys.cons rfl ?_ RAnys.nil)))
         ·refine ye rfl (oref 9 (u12 + 1) 0 1) ((z019 a1 u1 L6 a0 u10 L14 u11 L15 u12 v16 u13)) (TOp.buildSlice_o (g := ⟨u12, none⟩) (za := i64 0) (qs := [(0, [i64 v16])]) 9 rfl und22 siz2 zer2 rfl zel2 rfl rfl ⟨rfl, ⟨_, ALe.refl _, rfl⟩, trivial⟩ rfl)<|zN ?_
          exact RAny.use s51 (by kernel_rfl) ⟨aR, aR, aR, aR, aR, aR, aR, aR, aR, aR, aR, aR, aR, aR, aR, aR, aR, trivial⟩
         ·refine yd rfl (oref 8 u11 0 L15.length) (TOp.load1_o rfl rfl agg23 rfl rfl)<|zN ?_
          exact RAny.use s52 (by kernel_rfl) ⟨aR, aR, aR, aR, aR, aR, aR, aR, aR, aR, aR, aR, aR, aR, aR, aR, aR, trivial⟩
         ·refine ye rfl (oref 10 (u13 + 1) 0 1) ((z017 a1 u1 L6 a0 u10 L14 u11 L15 u12 u13 v9 v16)) (TOp.buildSlice_o (g := ⟨u13, none⟩) (za := f32 (some 0)) (qs := [(0, (z01d a1 v9 v16))]) 10 rfl und23 siz26 zer26 rfl zel26 rfl rfl ⟨rfl, ⟨_, ALe.refl _, rfl⟩, trivial⟩ rfl)<|zN ?_
          exact RAny.use s53 (by kernel_rfl) ⟨aR, aR, aR, aR, aR, aR, aR, aR, aR, aR, aR, aR, aR, aR, aR, aR, aR, trivial⟩
        ·refine ye rfl (oref 9 (u12 + 1) 0 1) ((z019 a1 u1 L6 a0 u10 L14 u11 L15 u12 v16 u13)) (TOp.buildSlice_o (g := ⟨u12, none⟩) (za := i64 0) (qs := [(0, [i64 v16])]) 9 rfl und22 siz2 zer2 rfl zel2 rfl rfl ⟨rfl, ⟨_, ALe.refl _, rfl⟩, trivial⟩ rfl)<|zN ?_
         refine RAny.more (i0 := 1) (l := [6, 8]) (by kernel_rfl) (RAnys.cons rfl ?_ (RAnys.cons rfl ?_ (RAnys.cons rfl ?_ RAnys.nil)))
         ·refine yd rfl (oref 7 u10 0 L14.length) (TOp.load1_o rfl rfl agg22 rfl rfl)<|zN ?_
          exact RAny.use s51 (by kernel_rfl) ⟨aR, aR, aR, aR, aR, aR, aR, aR, aR, aR, aR, aR, aR, aR, aR, aR, aR, trivial⟩
         ·refine yd rfl (oref 8 u11 0 L15.length) (TOp.load1_o rfl rfl agg23 rfl rfl)<|zN ?_
          exact RAny.use s54 (by kernel_rfl) ⟨aR, aR, aR, aR, aR, aR, aR, aR, aR, aR, aR, aR, aR, aR, aR, aR, aR, trivial⟩
         ·refine ye rfl (oref 10 (u13 + 1) 0 1) ((z016 a1 u1 L6 a0 u10 L14 u11 L15 u12 v16 u13 v9)) (TOp.buildSlice_o (g := ⟨u13, none⟩) (za := f32 (some 0)) (qs := [(0, (z01d a1 v9 v16))]) 10 rfl und23 siz26 zer26 rfl zel26 rfl rfl ⟨rfl, ⟨_, ALe.refl _, rfl⟩, trivial⟩ rfl)<|zN ?_
          exact RAny.use s55 (by kernel_rfl) ⟨aR, aR, aR, aR, aR, aR, aR, aR, aR, aR, aR, aR, aR, aR, aR, aR, aR, trivial⟩
        ·refine yd rfl (oref 8 u11 0 L15.length) (TOp.load1_o rfl rfl agg23 rfl rfl)<|zN ?_
         refine RAny.more (i0 := 1) (l := [3, 8]) (by kernel_rfl) (RAnys.cons rfl ?_ (RAnys.cons rfl ?_ (RAnys.cons rfl ?_ RAnys.nil)))
         ·refine yd rfl (oref 7 u10 0 L14.length) (TOp.load1_o rfl rfl agg22 rfl rfl)<|zN ?_
          exact RAny.use s52 (by kernel_rfl) ⟨aR, aR, aR, aR, aR, aR, aR, aR, aR, aR, aR, aR, aR, aR, aR, aR, aR, trivial⟩
         ·refine ye rfl (oref 9 (u12 + 1) 0 1) ((z019 a1 u1 L6 a0 u10 L14 u11 L15 u12 v16 u13)) (TOp.buildSlice_o (g := ⟨u12, none⟩) (za := i64 0) (qs := [(0, [i64 v16])]) 9 rfl und22 siz2 zer2 rfl zel2 rfl rfl ⟨rfl, ⟨_, ALe.refl _, rfl⟩, trivial⟩ rfl)<|zN ?_
          exact RAny.use s54 (by kernel_rfl) ⟨aR, aR, aR, aR, aR, aR, aR, aR, aR, aR, aR, aR, aR, aR, aR, aR, aR, trivial⟩
         ·refine ye rfl (oref 10 (u13 + 1) 0 1) ((z017 a1 u1 L6 a0 u10 L14 u11 L15 u12 u13 v9 v16)) (TOp.buildSlice_o (g := ⟨u13, none⟩) (za := f32 (some 0)) (qs := [(0, (z01d a1 v9 v16))]) 10 rfl und23 siz26 zer26 rfl zel26 rfl rfl ⟨rfl, ⟨_, ALe.refl _, rfl⟩, trivial⟩ rfl)<|zN ?_
          exact RAny.use s56 (by kernel_rfl) ⟨aR, aR, aR, aR, aR, aR, aR, aR, aR, aR, aR, aR, aR, aR, aR, aR, aR, trivial⟩
        ·refine ye rfl (oref 10 (u13 + 1) 0 1) ((z017 a1 u1 L6 a0 u10 L14 u11 L15 u12 u13 v9 v16)) (TOp.buildSlice_o (g := ⟨u13, none⟩) (za := f32 (some 0)) (qs := [(0, (z01d a1 v9 v16))]) 10 rfl und23 siz26 zer26 rfl zel26 rfl rfl ⟨rfl, ⟨_, ALe.refl _, rfl⟩, trivial⟩ rfl)<|zN ?_
         refine RAny.more (i0 := 1) (l := [3, 6]) (by kernel_rfl) (RAnys.cons rfl ?_ (RAnys.cons rfl ?_ (RAnys.cons rfl ?_ RAnys.nil)))
         ·refine yd rfl (oref 7 u10 0 L14.length) (TOp.load1_o rfl rfl agg22 rfl rfl)<|zN ?_
          exact RAny.use s53 (by kernel_rfl) ⟨aR, aR, aR, aR, aR, aR, aR, aR, aR, aR, aR, aR, aR, aR, aR, aR, aR, trivial⟩
         ·refine ye rfl (oref 9 (u12 + 1) 0 1) ((z016 a1 u1 L6 a0 u10 L14 u11 L15 u12 v16 u13 v9)) (TOp.buildSlice_o (g := ⟨u12, none⟩) (za := i64 0) (qs := [(0, [i64 v16])]) 9 rfl und22 siz2 zer2 rfl zel2 rfl rfl ⟨rfl, ⟨_, ALe.refl _, rfl⟩, trivial⟩ rfl)<|zN ?_
          exact RAny.use s55 (by kernel_rfl) ⟨aR, aR, aR, aR, aR, aR, aR, aR, aR, aR, aR, aR, aR, aR, aR, aR, aR, trivial⟩
         ·refine yd rfl (oref 8 u11 0 L15.length) (TOp.load1_o rfl rfl agg23 rfl rfl)<|zN ?_
          exact RAny.use s56 (by kernel_rfl) ⟨aR, aR, aR, aR, aR, aR, aR, aR, aR, aR, aR, aR, aR, aR, aR, aR, aR, trivial⟩
       ·rintro τ10 Γ10 ⟨hw10, hd10⟩
        exact ⟨(L14 ++ ([v16] : List Int)), (L15 ++ ([((mget a1 v9 v16).getD (some 0))] : List F)), (u10 + 1), (u11 + 1), (u12 + 1), (u13 + 1), rfl, rfl, rfl, (WeakLe.trans hw10 ⟨aR, aR, aR, aR, aR, aR, aR, aR, aR, trivial⟩), (DeadLe.trans hd10 ⟨dR, dR, dR, ⟨rfl, .inr (by first | rfl | simp)⟩, dR, dR, dR, dR, dR, dL, dL, dR, trivial⟩), h9_⟩
      ·refine yW<|ym rfl (mref 0 0)<|ym rfl (i64 v9)<|ym rfl (i64 v16)<|yl rfl (agg [i64 v9, i64 v16]) (LOp.build (qs := [(0, [i64 v9]), (1, [i64 v16])]) zer101 zok101 und101 plc101 rfl ⟨rfl, ⟨_, ALe.refl _, rfl⟩, ⟨rfl, ⟨_, ALe.refl _, rfl⟩, trivial⟩⟩ rfl)<|yd rfl (z01e a1 v9 v16) (TOp.mgetok und98 pky101 zer26 zel26 rfl rfl rfl rfl rfl rfl)<|ym rfl (z01e a1 v9 v16)<|yl rfl (f32 ((mget a1 v9 v16).getD (some 0))) n3<|yl rfl (b false) (LOp.eqb n3 hc3)<|ya rfl (f32 ((mget a1 v9 v16).getD (some 0)))<|ya rfl (b false)<|zN ?_
       refine zQ<|ym rfl (b false)<|zN ?_
       refine yF<|RunC.skip ?_
       exact ⟨L14, L15, u10, u11, u12, u13, rfl, rfl, rfl, ⟨aR, aR, aR, aR, aR, aR, aR, aR, aR, trivial⟩, ⟨dR, dR, dR, ⟨rfl, .inr (by first | rfl | simp)⟩, dR, dR, dR, dR, dR, dL, dL, dR, trivial⟩, h9_⟩
     ·rintro τ11 Γ11 ⟨L21, L22, u17, u18, u19, u20, hl23, hl24, hl25, hw11, hd11, h9_⟩
      refine RunC.wl hw11 hd11 ?_
      unfold K10_k5 at h9_
      obtain ⟨x26, hx6, h9_⟩ := oL h9_
      refine yW<|yl rfl (i64 x26) (LOp.eqr (LOp.add rfl rfl rfl) (congrArg (ik .i64) hx6))<|ym rfl (i64 x26)<|zN ?_
      cases oI h9_
      exact ⟨_, rfl, u17, u18, u19, u20, ⟨aR, aR, aR, aR, aR, aR, aR, aR, aR, trivial⟩, ⟨dR, dR, dR, ⟨rfl, .inr (by first | rfl | simp)⟩, dR, dR, dR, dR, dR, dL, dL, dR, trivial⟩⟩
    ·refine yW<|yl rfl (b false) (LOp.eqb (LOp.lss rfl rfl rfl) hc2)<|zN ?_
     refine yS<|yF<|RunC.exit ?_
     cases oI h9_
     have hx := ho9 _ rfl
     exact ⟨L14, L15, u10, u11, u12, u13, rfl, rfl, rfl, ⟨aR, aR, aR, aR, aR, aR, trivial⟩, ⟨dR, dR, dR, ⟨rfl, .inr (by first | rfl | simp)⟩, dR, dR, dR, dR, dR, dL, dL, dR, trivial⟩, hx⟩
   ·rintro τ12 Γ12 ⟨L34, L35, u27, u28, u29, u30, hl31, hl32, hl33, hw12, hd12, rfl⟩
    refine RunC.wl hw12 hd12 ?_
    replace h8_ : K10_k6 L6 v9 L34 L35 = some y8_ := h8_
    unfold K10_k6 at h8_
    obtain ⟨r36, hf7, h8_⟩ := oS h8_
    obtain ⟨hm8, h8_⟩ := need_some h8_
    refine RunC.region_draw (Γ' := [⟨0, some (mpc a1)⟩, z014, oJ u1 L6, ⟨1, some [i64 a0, oref 2 u1 0 L6.length, oref 7 u27 0 L34.length, oref 8 u28 0 L35.length]⟩, oJ 1 [], oJ 1 [], oF 1 [], oJ u27 L34, oF u28 L35, oJ (u29 + 1) [r36], ⟨u30, none⟩, o0]) 6 mixed 
     (tl rfl (optr 3 1 1) (LOp.fao und30 rfl siz22 rfl rfl rfl) <|
     (TR.d (r := oref 2 u1 0 L6.length) (fs := []) rfl rfl (TOp.load1_o rfl rfl agg22 rfl rfl) <|
     (tl rfl (optr 3 1 2) (LOp.fao und30 rfl siz22 rfl rfl rfl) <|
     (TR.d (r := oref 7 u27 0 L34.length) (fs := []) rfl rfl (TOp.load1_o rfl rfl agg22 rfl rfl) <|
     (TR.d (r := i64 r36) (fs := []) rfl rfl (yc ent104 rfl rfl (Bors.cons (Bor.own (f := i64) (fun _ => rfl) rfl rfl) bN) (K0e_ok L34 r36 hf7)) <|
     (TR.d (r := oref 9 (u29 + 1) 0 1) (fs := [(9, (([r36] : List Int).map i64))]) rfl rfl (TOp.buildSlice_o (g := ⟨u29, none⟩) (za := i64 0) (qs := [(0, [i64 r36])]) 9 rfl und22 siz2 zer2 rfl zel2 rfl rfl ⟨rfl, ⟨_, ALe.refl _, rfl⟩, trivial⟩ rfl) <|
     TR.nil)))))) rfl (by kernel_rfl) rfl (fills_of (by show List.Nodup [9]; decide) ⟨⟨_, rfl⟩, trivial⟩) rfl ?_
    iterate 6 refine ROps.dropS ?_
    refine ROps.drop0<|ROps.app (f := i64) (xs := L6) (ys := ([r36] : List Int)) (Γ' := [⟨0, some (mpc a1)⟩, z014, oJ (u1 + 1) (L6 ++ [r36]), ⟨1, some [i64 a0, oref 2 u1 0 L6.length, oref 7 u27 0 L34.length, oref 8 u28 0 L35.length]⟩, oJ 1 [], oJ 1 [], oF 1 [], oJ u27 L34, oF u28 L35, oJ (u29 + 1) [r36], ⟨u30, none⟩, o0]) rfl pun22 inf2 rfl rfl rfl rfl rfl rfl rfl rfl rfl (by simp) (ReadAs.own rfl (by simp)) (ones_map (fun _ => rfl)) (ap_by hm8) (ap_mx hm8) rfl<|yl rfl (optr 3 1 1) (LOp.fao und30 rfl siz22 rfl rfl rfl)<|ys (oref 2 (u1 + 1) 0 (L6.length + 1)) [i64 a0, oref 2 (u1 + 1) 0 (L6.length + 1), oref 7 u27 0 L34.length, oref 8 u28 0 L35.length] ([⟨0, some (mpc a1)⟩, z014, oJ (u1 + 1) (L6 ++ [r36]), ⟨1, some [i64 a0, oref 2 (u1 + 1) 0 (L6.length + 1), oref 7 u27 0 L34.length, oref 8 u28 0 L35.length]⟩, oJ 1 [], oJ 1 [], oF 1 [], oJ u27 L34, oF u28 L35, oJ (u29 + 1) [r36], ⟨u30, none⟩, o0]) siz22<|zN ?_
    refine RunC.wl (τ' := [(0, i64 a0), (1, mref 0 0), (4, optr 1 1 0), (6, optr 3 1 0), (14, i64 a0), (15, i64 v9)]) (Γ' := [⟨0, some (mpc a1)⟩, z014, oJ (u1 + 1) (L6 ++ [r36]), ⟨1, some [i64 a0, oref 2 (u1 + 1) 0 (L6.length + 1), oref 7 u27 0 L34.length, oref 8 u28 0 L35.length]⟩, oJ 1 [], oJ 1 [], oF 1 [], oJ u27 L34, oF u28 L35, ⟨(u29 + 1), none⟩, ⟨u30, none⟩, o0]) ⟨aR, aR, aR, aR, aR, aR, trivial⟩ ⟨dR, dR, dR, dR, dR, dR, dR, dR, dR, dL, dL, dR, trivial⟩ ?_
    obtain ⟨x37, hx9, h8_⟩ := oL h8_
    refine yW<|yl rfl (i64 x37) (LOp.eqr (LOp.add rfl rfl rfl) (congrArg (ik .i64) hx9))<|ym rfl (i64 x37)<|zN ?_
    cases oI h8_
    exact ⟨_, rfl, (u1 + 1), u27, u28, (u29 + 1), u30, ⟨aR, aR, aR, aR, aR, aR, trivial⟩, ⟨dR, dR, dR, ⟨rfl, .inr (by first | rfl | simp)⟩, dR, dR, dR, dR, dR, dL, dL, dR, trivial⟩⟩
  ·refine yW<|yl rfl (b false) (LOp.eqb (LOp.lss rfl rfl rfl) hc1)<|zN ?_
   refine yS<|yF<|RunC.exit ?_
   cases oI h8_
   have hx := ho8 _ rfl
   exact ⟨L6, L7, L8, u1, u2, u3, u4, u5, rfl, rfl, rfl, ⟨aR, aR, trivial⟩, ⟨dR, dR, dR, ⟨rfl, .inr (by first | rfl | simp)⟩, dR, dR, dR, dR, dR, dL, dL, dR, trivial⟩, hx⟩
 ·rintro τ13 Γ13 ⟨L43, L47, L48, u38, u39, u40, u41, u42, hl44, hl45, hl46, hw13, hd13, rfl⟩
  refine RunC.wl hw13 hd13 ?_
  replace h : K10_k7 a0 a1 L43 L47 L48 = some (q0, q1, q2, q3, q4, q5) := h
  unfold K10_k7 at h
  refine yS<|yS ?_
  obtain ⟨r49, hf10, h⟩ := oS h
  rcases oB h with ⟨hc11, h⟩ | ⟨hc11, h⟩
  ·refine yW<|yd rfl (agg (z01a a0 u38 L43 u39 L47 u40 L48)) (yA agg30 siz30)<|yd rfl (b true) (TOp.eqb (TOp.callB (CallAs.func ent30 rfl rfl) (Bors.cons (Bor.agg (bP (Bors.cons (Bor.own (f := i64) (fun _ => rfl) rfl rfl) (Bors.cons (Bor.own (f := i64) (fun _ => rfl) rfl rfl) (Bors.cons (Bor.own (f := f32) (fun _ => rfl) rfl rfl) bN))))) bN) rfl rfl (K0w_ok a0 L43 L47 L48 r49 hf10)) hc11)<|yl rfl (b false) n1<|zN ?_
   refine yF<|RunC.skip<|zQ<|yd rfl (agg (z01a a0 u38 L43 u39 L47 u40 L48)) (yA agg30 siz30)<|ys (agg (z01a a0 u38 L43 u39 L47 u40 L48)) (z01a a0 u38 L43 u39 L47 u40 L48) ([⟨0, some (mpc a1)⟩, ⟨1, some (z01a a0 u38 L43 u39 L47 u40 L48)⟩, oJ u38 L43, ⟨1, some (z01a a0 u38 L43 u39 L47 u40 L48)⟩, oJ 1 [], oJ 1 [], oF 1 [], oJ u39 L47, oF u40 L48, ⟨u41, none⟩, ⟨u42, none⟩, o0]) siz30<|ya rfl (b true)<|zN ?_
   refine RunC.ret ?_
   have hq := oI h
   obtain ⟨hq0, hq⟩ := Prod.mk.inj hq
   obtain ⟨hq1, hq⟩ := Prod.mk.inj hq
   obtain ⟨hq2, hq⟩ := Prod.mk.inj hq
   obtain ⟨hq3, hq⟩ := Prod.mk.inj hq
   obtain ⟨hq4, hq⟩ := Prod.mk.inj hq
   subst q0
   subst q1
   subst q2
   subst q3
   subst q4
   subst q5
   exact bodyQ.mk (r' := tup [agg (z01a a0 u38 L43 u39 L47 u40 L48), b true]) [(0, 0), (2, u38), (7, u39), (8, u40)] (.inr rfl) rfl (show List.Nodup [0, 2, 7, 8] from by decide) (by simp [ren, rens, sigma]) rfl (Res.two rfl (RV.cell agg30 siz30 rfl rfl rfl rfl) (RV.tmp rfl)) (SelL.map rfl (SelL.arr0 (f := i64) (fun _ => rfl) rfl (SelL.arr0 (f := i64) (fun _ => rfl) rfl (sA rfl trivial))))
  ·refine yW<|yd rfl (agg (z01a a0 u38 L43 u39 L47 u40 L48)) (yA agg30 siz30)<|yd rfl (b false) (TOp.eqb (TOp.callB (CallAs.func ent30 rfl rfl) (Bors.cons (Bor.agg (bP (Bors.cons (Bor.own (f := i64) (fun _ => rfl) rfl rfl) (Bors.cons (Bor.own (f := i64) (fun _ => rfl) rfl rfl) (Bors.cons (Bor.own (f := f32) (fun _ => rfl) rfl rfl) bN))))) bN) rfl rfl (K0w_ok a0 L43 L47 L48 r49 hf10)) hc11)<|yl rfl (b true) n0<|zN ?_
   refine yT<|zQ<|yl rfl (agg z01b) (LOp.build (qs := []) zer30 zok30 und30 plc30 rfl trivial rfl)<|ys (agg z01b) z01b ([⟨0, some (mpc a1)⟩, ⟨1, some z01b⟩, oJ u38 L43, ⟨1, some (z01a a0 u38 L43 u39 L47 u40 L48)⟩, oJ 1 [], oJ 1 [], oF 1 [], oJ u39 L47, oF u40 L48, ⟨u41, none⟩, ⟨u42, none⟩, o0]) siz30<|ya rfl (b false)<|zN ?_
   refine RunC.nil_cell (l' := [i64 0, oref 9 (u41 + 1) 0 0, nilsl, nilsl]) (Γ' := [⟨0, some (mpc a1)⟩, ⟨1, some [i64 0, oref 9 (u41 + 1) 0 0, nilsl, nilsl]⟩, oJ u38 L43, ⟨1, some (z01a a0 u38 L43 u39 L47 u40 L48)⟩, oJ 1 [], oJ 1 [], oF 1 [], oJ u39 L47, oF u40 L48, oJ (u41 + 1) [], ⟨u42, none⟩, o0]) 1 1 9 rfl rfl rfl rfl rfl<|RunC.nil_cell (l' := [i64 0, oref 9 (u41 + 1) 0 0, oref 10 (u42 + 1) 0 0, nilsl]) (Γ' := [⟨0, some (mpc a1)⟩, ⟨1, some [i64 0, oref 9 (u41 + 1) 0 0, oref 10 (u42 + 1) 0 0, nilsl]⟩, oJ u38 L43, ⟨1, some (z01a a0 u38 L43 u39 L47 u40 L48)⟩, oJ 1 [], oJ 1 [], oF 1 [], oJ u39 L47, oF u40 L48, oJ (u41 + 1) [], oJ (u42 + 1) [], o0]) 1 2 10 rfl rfl rfl rfl rfl<|RunC.nil_cell (l' := [i64 0, oref 9 (u41 + 1) 0 0, oref 10 (u42 + 1) 0 0, oref 11 1 0 0]) (Γ' := [⟨0, some (mpc a1)⟩, ⟨1, some [i64 0, oref 9 (u41 + 1) 0 0, oref 10 (u42 + 1) 0 0, oref 11 1 0 0]⟩, oJ u38 L43, ⟨1, some (z01a a0 u38 L43 u39 L47 u40 L48)⟩, oJ 1 [], oJ 1 [], oF 1 [], oJ u39 L47, oF u40 L48, oJ (u41 + 1) [], oJ (u42 + 1) [], oF 1 []]) 1 3 11 rfl rfl rfl rfl rfl<|RunC.ret ?_
   have hq := oI h
   obtain ⟨hq0, hq⟩ := Prod.mk.inj hq
   obtain ⟨hq1, hq⟩ := Prod.mk.inj hq
   obtain ⟨hq2, hq⟩ := Prod.mk.inj hq
   obtain ⟨hq3, hq⟩ := Prod.mk.inj hq
   obtain ⟨hq4, hq⟩ := Prod.mk.inj hq
   subst q0
   subst q1
   subst q2
   subst q3
   subst q4
   subst q5
   exact bodyQ.mk (r' := tup [agg [i64 0, oref 9 (u41 + 1) 0 (([] : List Int).length), oref 10 (u42 + 1) 0 (([] : List Int).length), oref 11 1 0 (([] : List F).length)], b false]) [(0, 0), (9, (u41 + 1)), (10, (u42 + 1)), (11, 1)] (.inr rfl) rfl (show List.Nodup [0, 9, 10, 11] from by decide) (by simp [ren, rens, sigma]) rfl (Res.eq (Res.two rfl (RV.cell agg30 siz30 rfl rfl rfl rfl) (RV.tmp rfl)) (by first | rfl | (rw [(show ([] : List Int).length = 0 from rfl), (show ([] : List F).length = 0 from rfl)] <;> rfl))) (SelL.map rfl (SelL.arr0 (f := i64) (fun _ => rfl) rfl (SelL.arr0 (f := i64) (fun _ => rfl) rfl (sA rfl trivial))))

def K11_b2 (a0 : Int) (v3 : Int) (L5 : List (Int × Int × F)) (v6 : Int) : Option (LR ((List (Int × Int × F)) × Int) ((List (Int × Int × F))) (Int × (List Int) × (List Int) × (List F))) :=
 bsel (decide (v6 < a0)) (
  olet (mdel L5 v3 v6) fun (L7 : List (Int × Int × F)) =>
  olet (IntKind.i64.wrap (v6 + 1)) fun (x8 : Int) =>
  some (LR.next (L7, x8))) (
  some (LR.out L5))
def K11_s2 (a0 : Int) (v3 : Int) : ((List (Int × Int × F)) × Int) → Option (LR ((List (Int × Int × F)) × Int) ((List (Int × Int × F))) (Int × (List Int) × (List Int) × (List F))) := fun s => K11_b2 a0 v3 s.1 s.2
def K11_k2 (v3 : Int) (L9 : List (Int × Int × F)) : Option (LR ((List (Int × Int × F)) × Int) ((List (Int × Int × F))) (Int × (List Int) × (List Int) × (List F))) :=
 olet (IntKind.i64.wrap (v3 + 1)) fun (x10 : Int) =>
 some (LR.next (L9, x10))
def K11_b3 (a0 : Int) (L2 : List (Int × Int × F)) (v3 : Int) : Option (LR ((List (Int × Int × F)) × Int) ((List (Int × Int × F))) (Int × (List Int) × (List Int) × (List F))) :=
 bsel (decide (v3 < a0)) (
  olet (IntKind.i64.wrap (v3 + 1)) fun (x4 : Int) =>
  obind (loopM (K11_s2 a0 v3) (L2, x4)) fun z => osum z (fun e => K11_k2 v3 e) (fun r => some (LR.ret r))) (
  some (LR.out L2))
def K11_s3 (a0 : Int) : ((List (Int × Int × F)) × Int) → Option (LR ((List (Int × Int × F)) × Int) ((List (Int × Int × F))) (Int × (List Int) × (List Int) × (List F))) := fun s => K11_b3 a0 s.1 s.2
def K11_k3 (a0 : Int) (L11 : List (Int × Int × F)) : Option (Int × (List Int) × (List Int) × (List F)) :=
 obind6 (K10 a0 L11) fun (r12 : Int) (r13 : Bool) (r14 : List (Int × Int × F)) (r15 : List Int) (r16 : List Int) (r17 : List F) =>
 some (r12, r15, r16, r17)
def K11 (a0 : Int) (a1 : List Int) (a2 : List Int) (a3 : List F) : Option (Int × (List Int) × (List Int) × (List F)) :=
 obind (K0z a0 a1 a2 a3) fun (r1 : List (Int × Int × F)) =>
 obind (loopM (K11_s3 a0) (r1, 0)) fun z => osum z (fun e => K11_k3 a0 e) (fun r => some r)
abbrev z01g (r12 : Int) (r15 : List Int) (r16 : List Int) (r17 : List F) : List AV := [i64 r12, oref 2 1 0 r15.length, oref 3 1 0 r16.length, oref 4 1 0 r17.length]
abbrev z01h (a0 : Int) (a1 : List Int) (a2 : List Int) (a3 : List F) : List AV := [i64 a0, sl a1.length (a1.map i64), sl a2.length (a2.map i64), (sFc a3)]
abbrev z01i : Ob := ⟨1, some [i64 0, nilsl, nilsl, nilsl]⟩
theorem K11_ok (a0 : Int) (a1 : List Int) (a2 : List Int) (a3 : List F) (q0 : Int) (q1 : List Int) (q2 : List Int) (q3 : List F) (h : K11 a0 a1 a2 a3 = some (q0, q1, q2, q3)) : Ev Try.prog 113 [agg [i64 a0, sl a1.length (a1.map i64), sl a2.length (a2.map i64), (sFc a3)]] [] (agg [i64 q0, oref 0 0 0 q1.length, oref 1 0 0 q2.length, oref 2 0 0 q3.length]) [oJ 0 q1, oJ 0 q2, oF 0 q3] := by
 refine yE Try.func113 6 73 0 ([(0, agg (z01h a0 a1 a2 a3))]) [o0, o0, o0, o0, o0, o0] rfl ?_
 unfold K11 at h
 refine zQ<|yd rfl (ptr (z01h a0 a1 a2 a3)) (TOp.box_s rfl rfl rfl)<|ye rfl (optr 0 1 0) ([z01i, o0, o0, o0, o0, o0]) (TOp.alloc_o (g := o0) 0 rfl zer30 zok30 rfl)<|zN ?_
 refine yS ?_
 obtain ⟨r1, hf1, h⟩ := oS h
 refine yW<|yl rfl (agg (z01h a0 a1 a2 a3)) (yL agg30 siz30)<|ye rfl (mref 1 1) ([z01i, ⟨1, some (mpc r1)⟩, o0, o0, o0, o0]) (TOp.callBN (ls := [(mpc r1)]) [1] (CallAs.func ent83 rfl rfl) (Bors.cons (Bor.agg (bP (bS (bS (bS bN))))) bN) rfl (K0z_ok a0 a1 a2 a3 r1 hf1) (and_all (lt_mpc 0 _) rfl) (and_all (noss_mpc _) rfl) rfl (by decide) (ns_of ⟨⟨_, rfl⟩, trivial⟩))<|ya rfl (mref 1 1)<|zN ?_
 refine yS<|zQ<|yl rfl (ptr (z01h a0 a1 a2 a3)) (LOp.fap und30 rfl siz2 rfl rfl rfl)<|yl rfl (i64 a0) (n2 agg2)<|ym rfl (i64 0)<|zN ?_
 obtain ⟨z4, hz_4, h⟩ := oS h
 refine RunC.cutN (fun τ Γ => ∃ (L11 : List (Int × Int × F)), WeakLe τ [(1, ptr (z01h a0 a1 a2 a3)), (2, optr 0 1 0), (3, mref 1 1)] ∧ DeadLe Γ [z01i, ⟨1, some (mpc L11)⟩, o0, o0, o0, o0] ∧ z4 = .inl L11) ?_ ?_
 ·refine RunC.block (RunC.loop (RunL.loopM (x := z4) (K11_s3 a0) (fun (s : (List (Int × Int × F)) × Int) τ Γ => WeakLe τ [(1, ptr (z01h a0 a1 a2 a3)), (2, optr 0 1 0), (3, mref 1 1), (11, i64 a0), (12, i64 s.2)] ∧ DeadLe Γ [z01i, ⟨1, some (mpc s.1)⟩, o0, o0, o0, o0]) ?_ _ _ _ hz_4 ⟨⟨aR, aR, aR, aR, aR, trivial⟩, ⟨dR, dR, dR, dR, dR, dR, trivial⟩⟩))
  rintro ⟨L2, v3⟩ τ4 Γ4 y4_ ⟨hw4, hd4⟩ h4_ ho4 hr4
  refine RunC.wl (τ' := [(1, ptr (z01h a0 a1 a2 a3)), (2, optr 0 1 0), (3, mref 1 1), (11, i64 a0), (12, i64 v3)]) (Γ' := [z01i, ⟨1, some (mpc L2)⟩, o0, o0, o0, o0]) hw4 hd4 ?_
  replace h4_ : K11_b3 a0 L2 v3 = some y4_ := h4_
  unfold K11_b3 at h4_
  refine yS ?_
  rcases oB h4_ with ⟨hc2, h4_⟩ | ⟨hc2, h4_⟩
  ·refine yW<|yl rfl (b true) (LOp.eqb (LOp.lss rfl rfl rfl) hc2)<|zN ?_
   refine yS<|yT<|RunC.skip<|yS<|RunC.block<|zQ<|ym rfl (i64 v3)<|ya rfl (i64 v3)<|zN ?_
   refine yS ?_
   obtain ⟨x4, hx3, h4_⟩ := oL h4_
   refine yW<|ym rfl (i64 v3)<|yl rfl (i64 x4) (LOp.eqr (LOp.add rfl rfl rfl) (congrArg (ik .i64) hx3))<|ya rfl (i64 x4)<|zN ?_
   obtain ⟨z5, hz_5, h4_⟩ := oS h4_
   refine RunC.cutN (fun τ Γ => ∃ (L9 : List (Int × Int × F)), WeakLe τ [(1, ptr (z01h a0 a1 a2 a3)), (2, optr 0 1 0), (3, mref 1 1), (11, i64 a0), (12, i64 v3)] ∧ DeadLe Γ [z01i, ⟨1, some (mpc L9)⟩, o0, o0, o0, o0] ∧ z5 = .inl L9) ?_ ?_
   ·refine RunC.block (RunC.loop (RunL.loopM (x := z5) (K11_s2 a0 v3) (fun (s : (List (Int × Int × F)) × Int) τ Γ => WeakLe τ [(1, ptr (z01h a0 a1 a2 a3)), (2, optr 0 1 0), (3, mref 1 1), (4, i64 v3), (5, i64 s.2), (11, i64 a0), (12, i64 v3)] ∧ DeadLe Γ [z01i, ⟨1, some (mpc s.1)⟩, o0, o0, o0, o0]) ?_ _ _ _ hz_5 ⟨⟨aR, aR, aR, aR, aR, aR, aR, trivial⟩, ⟨dR, dR, dR, dR, dR, dR, trivial⟩⟩))
    rintro ⟨L5, v6⟩ τ5 Γ5 y5_ ⟨hw5, hd5⟩ h5_ ho5 hr5
    refine RunC.wl (τ' := [(1, ptr (z01h a0 a1 a2 a3)), (2, optr 0 1 0), (3, mref 1 1), (4, i64 v3), (5, i64 v6), (11, i64 a0), (12, i64 v3)]) (Γ' := [z01i, ⟨1, some (mpc L5)⟩, o0, o0, o0, o0]) hw5 hd5 ?_
    replace h5_ : K11_b2 a0 v3 L5 v6 = some y5_ := h5_
    unfold K11_b2 at h5_
    refine yS<|yS ?_
    rcases oB h5_ with ⟨hc4, h5_⟩ | ⟨hc4, h5_⟩
    ·refine yW<|ym rfl (i64 v6)<|yl rfl (ptr (z01h a0 a1 a2 a3)) (LOp.fap und30 rfl siz2 rfl rfl rfl)<|yl rfl (i64 a0) (n2 agg2)<|yl rfl (b true) (LOp.eqb (LOp.lss rfl rfl rfl) hc4)<|zN ?_
     refine yT<|RunC.skip<|yS<|RunC.block ?_
     obtain ⟨L7, hx5, h5_⟩ := oL h5_
     refine yW<|ym rfl (mref 1 1)<|ym rfl (i64 v3)<|ym rfl (i64 v6)<|yl rfl (agg [i64 v3, i64 v6]) (LOp.build (qs := [(0, [i64 v3]), (1, [i64 v6])]) zer101 zok101 und101 plc101 rfl ⟨rfl, ⟨_, ALe.refl _, rfl⟩, ⟨rfl, ⟨_, ALe.refl _, rfl⟩, trivial⟩⟩ rfl)<|ROps.mdel (L' := L7) (Γ' := [z01i, ⟨1, some (mpc L7)⟩, o0, o0, o0, o0]) rfl und98 pky101 rfl rfl rfl rfl rfl hx5 rfl<|zN ?_
     obtain ⟨x8, hx6, h5_⟩ := oL h5_
     refine yW<|ym rfl (i64 v6)<|yl rfl (i64 x8) (LOp.eqr (LOp.add rfl rfl rfl) (congrArg (ik .i64) hx6))<|ya rfl (i64 x8)<|zN ?_
     cases oI h5_
     exact ⟨_, rfl, ⟨aR, aR, aR, aR, aR, aR, aR, trivial⟩, ⟨dR, dR, dR, dR, dR, dR, trivial⟩⟩
    ·refine yW<|ym rfl (i64 v6)<|yl rfl (ptr (z01h a0 a1 a2 a3)) (LOp.fap und30 rfl siz2 rfl rfl rfl)<|yl rfl (i64 a0) (n2 agg2)<|yl rfl (b false) (LOp.eqb (LOp.lss rfl rfl rfl) hc4)<|zN ?_
     refine yF<|RunC.exit ?_
     cases oI h5_
     have hx := ho5 _ rfl
     exact ⟨L5, ⟨aR, aR, aR, aR, aR, trivial⟩, ⟨dR, dR, dR, dR, dR, dR, trivial⟩, hx⟩
   ·rintro τ6 Γ6 ⟨L9, hw6, hd6, rfl⟩
    refine RunC.wl hw6 hd6 ?_
    replace h4_ : K11_k2 v3 L9 = some y4_ := h4_
    unfold K11_k2 at h4_
    obtain ⟨x10, hx7, h4_⟩ := oL h4_
    refine yW<|yl rfl (i64 x10) (LOp.eqr (LOp.add rfl rfl rfl) (congrArg (ik .i64) hx7))<|ym rfl (i64 x10)<|zN ?_
    cases oI h4_
    exact ⟨_, rfl, ⟨aR, aR, aR, aR, aR, trivial⟩, ⟨dR, dR, dR, dR, dR, dR, trivial⟩⟩
  ·refine yW<|yl rfl (b false) (LOp.eqb (LOp.lss rfl rfl rfl) hc2)<|zN ?_
   refine yS<|yF<|RunC.exit ?_
   cases oI h4_
   have hx := ho4 _ rfl
   exact ⟨L2, ⟨aR, aR, aR, trivial⟩, ⟨dR, dR, dR, dR, dR, dR, trivial⟩, hx⟩
 ·rintro τ7 Γ7 ⟨L11, hw7, hd7, rfl⟩
  refine RunC.wl hw7 hd7 ?_
  replace h : K11_k3 a0 L11 = some (q0, q1, q2, q3) := h
  unfold K11_k3 at h
  refine yS ?_
  obtain ⟨r12, r13, r14, r15, r16, r17, hf8, h⟩ := obind6_some h
  refine yW<|yl rfl (ptr (z01h a0 a1 a2 a3)) (LOp.fap und30 rfl siz2 rfl rfl rfl)<|yl rfl (i64 a0) (n2 agg2)<|ym rfl (mref 1 1)<|ROps.callO (A := [i64 a0, mref 1 1]) (args := [i64 a0, mref 0 0]) (Γc := [⟨0, some (mpc L11)⟩]) (Γc' := [⟨0, some (mpc r14)⟩, oJ 0 r15, oJ 0 r16, oF 0 r17]) (r' := tup [agg (z01g r12 r15 r16 r17), b r13]) (Γ' := [z01i, ⟨1, some (mpc r14)⟩, oJ 1 r15, oJ 1 r16, oF 1 r17, o0]) [(1, 1)] [(2, 1), (3, 1), (4, 1)] rfl (CallAs.func ent100 rfl rfl) rfl rfl (SelOk.of (ndB_ok rfl) (SelL.map0 rfl trivial)) (live_of ⟨⟨_, _, rfl⟩, trivial⟩) (by simp [ren, rens, sigma, rens_f32, rens_f64, rens_i64, rens_ik, rens_str, rens_cp, rens_mpc]) rfl (K10_ok a0 L11 r12 r13 r14 r15 r16 r17 hf8) rfl (news_of ⟨⟨_, rfl, rfl⟩, ⟨_, rfl, rfl⟩, ⟨_, rfl, rfl⟩, trivial⟩) (show List.Nodup [1, 2, 3, 4] from by decide) (by simp [ren, rens, sigma]) (by simp [backOb, sigma, ren, rens, rens_f32, rens_f64, rens_i64, rens_ik, rens_str, rens_cp, rens_mpc] <;> omega)<|ym rfl (tup [agg (z01g r12 r15 r16 r17), b r13])<|yl rfl (agg (z01g r12 r15 r16 r17)) n3<|yl rfl (b r13) n3<|ye rfl (optr 5 1 0) ([z01i, ⟨1, some (mpc r14)⟩, oJ 1 r15, oJ 1 r16, oF 1 r17, z01i]) (TOp.alloc_o (g := o0) 5 rfl zer30 zok30 rfl)<|ys (agg (z01g r12 r15 r16 r17)) (z01g r12 r15 r16 r17) ([z01i, ⟨1, some (mpc r14)⟩, oJ 1 r15, oJ 1 r16, oF 1 r17, ⟨1, some (z01g r12 r15 r16 r17)⟩]) siz30<|ya rfl (b r13)<|zN ?_
  refine RunC.wl (τ' := [(2, optr 0 1 0), (6, optr 5 1 0)]) (Γ' := [z01i, ⟨1, none⟩, oJ 1 r15, oJ 1 r16, oF 1 r17, ⟨1, some (z01g r12 r15 r16 r17)⟩]) ⟨aR, aR, trivial⟩ ⟨dR, dL, dR, dR, dR, dR, trivial⟩<|zQ<|yd rfl (agg (z01g r12 r15 r16 r17)) (yA agg30 siz30)<|ys (agg (z01g r12 r15 r16 r17)) (z01g r12 r15 r16 r17) ([⟨1, some (z01g r12 r15 r16 r17)⟩, ⟨1, none⟩, oJ 1 r15, oJ 1 r16, oF 1 r17, ⟨1, some (z01g r12 r15 r16 r17)⟩]) siz30<|zN ?_
  refine RunC.ret ?_
  have hq := oI h
  obtain ⟨hq0, hq⟩ := Prod.mk.inj hq
  obtain ⟨hq1, hq⟩ := Prod.mk.inj hq
  obtain ⟨hq2, hq⟩ := Prod.mk.inj hq
  subst q0
  subst q1
  subst q2
  subst q3
  exact yB (agg (z01g r12 r15 r16 r17)) [(2, 1), (3, 1), (4, 1)] (Res.one rfl (RV.cell agg30 siz30 rfl rfl rfl rfl)) (SelL.arr0 (f := i64) (fun _ => rfl) rfl (SelL.arr0 (f := i64) (fun _ => rfl) rfl (sA rfl trivial)))

def K12_b1 (L3 : List Int) (k5 : Int) (k6 : Int) (y7 : F) : Option ((List Int)) :=
 bsel (!decide (k5 = k6)) (
  obind (at? L3 k5) fun (e8 : Int) =>
  need (decide ((0 : Int) ≤ k6)) <|
  olet (ishl .u64 1 k6) fun (x9 : Int) =>
  olet (ior .u64 e8 x9) fun (x10 : Int) =>
  obind (setAt? L3 k5 x10) fun (L11 : List Int) =>
  obind (at? L11 k6) fun (e12 : Int) =>
  need (decide ((0 : Int) ≤ k5)) <|
  olet (ishl .u64 1 k5) fun (x13 : Int) =>
  olet (ior .u64 e12 x13) fun (x14 : Int) =>
  obind (setAt? L11 k6 x14) fun (L15 : List Int) =>
  some L15) (
  some L3)
def K12_s1  : ((List Int)) → (Int × Int × F) → Option ((List Int)) := fun s e => K12_b1 s e.1 e.2.1 e.2.2
def K12_r1 : ((List Int)) → ((List Int)) → Prop := fun s t => t = s ∧ True
def K12_k1 (L16 : List Int) : Option ((List Int)) :=
 some L16
def K12 (a0 : Int) (a1 : List Int) (a2 : List Int) (a3 : List F) : Option ((List Int)) :=
 need (mkok 8 a0) <|
 obind (K0z a0 a1 a2 a3) fun (r1 : List (Int × Int × F)) =>
 obind (ordM K12_r1 (K12_s1) (List.replicate a0.toNat 0) r1) fun e => K12_k1 e
abbrev z01j (a0 : Int) : Ob := ⟨1, some ((List.replicate a0.toNat 0).map (ik .u64))⟩
abbrev z01k (a0 : Int) (a1 : List Int) (a2 : List Int) (a3 : List F) : List AV := [i64 a0, sl a1.length (a1.map i64), sl a2.length (a2.map i64), (sFc a3)]
abbrev z01l (u2 : Nat) (k5 : Int) (k6 : Int) : Ob := ⟨(u2 + 1), some [i64 k5, i64 k6]⟩
theorem K12_ok (a0 : Int) (a1 : List Int) (a2 : List Int) (a3 : List F) (q0 : List Int) (h : K12 a0 a1 a2 a3 = some q0) : Ev Try.prog 114 [agg [i64 a0, sl a1.length (a1.map i64), sl a2.length (a2.map i64), (sFc a3)]] [] (oref 0 0 0 q0.length) [⟨0, some (q0.map (ik .u64))⟩] := by
 refine yE Try.func114 4 83 0 ([(0, agg (z01k a0 a1 a2 a3))]) [o0, o0, o0, o0] rfl ?_
 unfold K12 at h
 refine zQ<|yd rfl (ptr (z01k a0 a1 a2 a3)) (TOp.box_s rfl rfl rfl)<|ya rfl nilsl<|zN ?_
 refine yS ?_
 obtain ⟨hm1, h⟩ := need_some h
 refine yW<|yl rfl (ptr (z01k a0 a1 a2 a3)) (LOp.fap und30 rfl siz2 rfl rfl rfl)<|yl rfl (i64 a0) (n2 agg2)<|ye rfl (oref 0 1 0 a0.toNat) [(z01j a0), o0, o0, o0] (TOp.mkS (g := o0) (t := 124) (e := 129) (by_ := 8) (f := (ik .u64)) (zv := 0) 0 rfl und124 tin129 rfl siz129 zer129 rfl zel129 rfl rfl rfl hm1)<|ya rfl (oref 0 1 0 a0.toNat)<|zN ?_
 refine yS<|yS ?_
 obtain ⟨r1, hf2, h⟩ := oS h
 refine yW<|yl rfl (agg (z01k a0 a1 a2 a3)) (yL agg30 siz30)<|ye rfl (mref 1 1) [(z01j a0), ⟨1, some (mpc r1)⟩, o0, o0] (TOp.callBN (ls := [(mpc r1)]) [1] (CallAs.func ent83 rfl rfl) (Bors.cons (Bor.agg (bP (bS (bS (bS bN))))) bN) rfl (K0z_ok a0 a1 a2 a3 r1 hf2) (and_all (lt_mpc 0 _) rfl) (and_all (noss_mpc _) rfl) rfl (by decide) (ns_of ⟨⟨_, rfl⟩, trivial⟩))<|ROps.rng (q := 2) (v := 0) (Γ' := fun es3 ck3 => [(z01j a0), ⟨1, some (mpx [x (encE es3), i64 ck3] r1)⟩, ⟨1, some [mref 1 1, x (encE []), i64 ck3, i64 ck3]⟩, o0]) rfl und98 rfl rfl rfl rfl rfl rfl (fun _ _ => rfl) ?_
 intro es3 ck3 rg3
 refine zN ?_
 obtain ⟨L16, hz_1, h⟩ := oS h
 refine RunC.cutN (fun τ Γ => ∃ (L16w : List Int) (u2w : Nat), L16w.length = a0.toNat ∧ K12_r1 L16w L16 ∧ WeakLe τ [(3, oref 0 1 0 a0.toNat)] ∧ DeadLe Γ [⟨1, some (L16w.map (ik .u64))⟩, ⟨1, some (mpx [x (encE es3), i64 ck3] r1)⟩, ⟨1, none⟩, ⟨u2w, none⟩]) ?_ ?_
 ·refine RunC.wl (τ' := [(3, oref 0 1 0 a0.toNat), (10, itr 2 1)]) (Γ' := [(z01j a0), ⟨1, some (mpx [x (encE es3), i64 ck3] r1)⟩, ⟨1, some [mref 1 1, x (encE []), i64 ck3, i64 ck3]⟩, o0]) ⟨aR, aR, trivial⟩ ⟨dR, dR, ⟨rfl, .inr (by first | rfl | simp)⟩, dL, trivial⟩<|RunC.rangeM hz_1 (γ := Nat) (fun g s => [(3, oref 0 1 0 a0.toNat), (10, itr 2 1)]) (fun g s ds1 => [⟨1, some (s.map (ik .u64))⟩, ⟨1, some (mpx [x (encE es3), i64 ck3] r1)⟩, ⟨1, some [mref 1 1, x (encE ds1), i64 ck3, i64 ck3]⟩, ⟨g, none⟩]) (fun (s : (List Int)) => s.length = a0.toNat ∧ True) 0 ⟨List.length_replicate, trivial⟩ rfl rfl (fun _ => rfl) rfl rfl rfl (fun _ => rfl) rfl rg3 (fun _ _ => rfl) (fun _ _ _ => rfl) (fun _ _ _ => rfl) (fun _ _ _ _ => rfl) ?_ ?_
  ·rintro u2 L3 y1_ ds1 em1 ⟨k5, k6, y7⟩ ⟨hl4, _⟩ he1 hy1 h1_
   refine RunC.wl (τ' := [(3, oref 0 1 0 a0.toNat), (10, itr 2 1), (11, tup [b true, any, any]), (12, b true)]) (Γ' := [⟨1, some (L3.map (ik .u64))⟩, ⟨1, some (mpx [x (encE es3), i64 ck3] r1)⟩, ⟨1, some [mref 1 1, x (encE (ds1 ++ [em1])), i64 ck3, i64 ck3]⟩, ⟨u2, none⟩]) ⟨aR, aR, aR, aR, trivial⟩ ⟨dR, dR, dR, dL, trivial⟩ ?_
   replace hl4 : L3.length = a0.toNat := hl4
   replace h1_ : K12_b1 L3 k5 k6 y7 = some y1_ := h1_
   unfold K12_b1 at h1_
   refine RunC.block<|zQ<|yd rfl (tup [agg [i64 k5, i64 k6], f32 y7]) (TOp.entry rfl rfl rfl rfl he1 hy1)<|yl rfl (agg [i64 k5, i64 k6]) n3<|ye rfl (optr 3 (u2 + 1) 0) ([⟨1, some (L3.map (ik .u64))⟩, ⟨1, some (mpx [x (encE es3), i64 ck3] r1)⟩, ⟨1, some [mref 1 1, x (encE (ds1 ++ [em1])), i64 ck3, i64 ck3]⟩, ⟨(u2 + 1), some [i64 0, i64 0]⟩]) (TOp.alloc_o (g := ⟨u2, none⟩) 3 rfl zer101 zok101 rfl)<|ys (agg [i64 k5, i64 k6]) [i64 k5, i64 k6] ([⟨1, some (L3.map (ik .u64))⟩, ⟨1, some (mpx [x (encE es3), i64 ck3] r1)⟩, ⟨1, some [mref 1 1, x (encE (ds1 ++ [em1])), i64 ck3, i64 ck3]⟩, (z01l u2 k5 k6)]) siz101<|zN ?_
   refine yS ?_
   rcases oB h1_ with ⟨hc4, h1_⟩ | ⟨hc4, h1_⟩
   ·refine yW<|yl rfl (optr 3 (u2 + 1) 0) (LOp.fao und101 rfl siz2 rfl rfl rfl)<|yd rfl (i64 k5) (TOp.load1_o rfl rfl agg2 rfl rfl)<|yl rfl (optr 3 (u2 + 1) 1) (LOp.fao und101 rfl siz2 rfl rfl rfl)<|yd rfl (i64 k6) (TOp.load1_o rfl rfl agg2 rfl rfl)<|yl rfl (b true) (LOp.eqb (LOp.neq rfl rfl rfl) hc4)<|zN ?_
    refine yT<|yS ?_
    obtain ⟨e8, he5, h1_⟩ := oS h1_
    obtain ⟨hz6, h1_⟩ := need_some h1_
    obtain ⟨x9, hx7, h1_⟩ := oL h1_
    obtain ⟨x10, hx8, h1_⟩ := oL h1_
    obtain ⟨L11, he9, h1_⟩ := oS h1_
    refine RunC.region_draw (Γ' := [⟨1, some (L3.map (ik .u64))⟩, ⟨1, some (mpx [x (encE es3), i64 ck3] r1)⟩, ⟨1, some [mref 1 1, x (encE (ds1 ++ [em1])), i64 ck3, i64 ck3]⟩, (z01l u2 k5 k6)]) 10 mixed 
     (tm rfl (oref 0 1 0 a0.toNat) <|
     (tl rfl (optr 3 (u2 + 1) 0) (LOp.fao und101 rfl siz2 rfl rfl rfl) <|
     (TR.d (r := i64 k5) (fs := []) rfl rfl (TOp.load1_o rfl rfl agg2 rfl rfl) <|
     (TR.d (r := optr 0 1 k5.toNat) (fs := []) rfl rfl (TOp.ixo und124 siz129 rfl rfl rfl (at_in he5 hl4) rfl) <|
     (TR.d (r := ik .u64 e8) (fs := []) rfl rfl (TOp.load1_o rfl (at_cell he5) agg129 rfl rfl) <|
     (tl rfl (optr 3 (u2 + 1) 1) (LOp.fao und101 rfl siz2 rfl rfl rfl) <|
     (TR.d (r := i64 k6) (fs := []) rfl rfl (TOp.load1_o rfl rfl agg2 rfl rfl) <|
     (tl rfl (ik .u64 x9) (LOp.eqr (LOp.shl rfl rfl rfl (of_decide_eq_true hz6)) (congrArg (ik .u64) hx7)) <|
     (tl rfl (ik .u64 x10) (LOp.eqr (LOp.ior rfl rfl rfl) (congrArg (ik .u64) hx8)) <|
     (TR.d (r := optr 0 1 k5.toNat) (fs := []) rfl rfl (TOp.ixo und124 siz129 rfl rfl rfl (set_in he9 hl4) rfl) <|
     TR.nil)))))))))) rfl (by kernel_rfl) rfl fills_nil rfl ?_
    iterate 10 refine ROps.dropS ?_
    refine ROps.drop0<|ROps.st (f := (ik .u64)) (i := k5) (Γ' := [⟨1, some (L11.map (ik .u64))⟩, ⟨1, some (mpx [x (encE es3), i64 ck3] r1)⟩, ⟨1, some [mref 1 1, x (encE (ds1 ++ [em1])), i64 ck3, i64 ck3]⟩, (z01l u2 k5 k6)]) rfl siz129 rfl rfl rfl aR rfl rfl rfl he9 rfl<|zN ?_
    refine RunC.wl (τ' := [(3, oref 0 1 0 a0.toNat), (4, optr 3 (u2 + 1) 0), (10, itr 2 1)]) (Γ' := [⟨1, some (L11.map (ik .u64))⟩, ⟨1, some (mpx [x (encE es3), i64 ck3] r1)⟩, ⟨1, some [mref 1 1, x (encE (ds1 ++ [em1])), i64 ck3, i64 ck3]⟩, (z01l u2 k5 k6)]) ⟨aR, aR, aR, trivial⟩ ⟨dR, dR, dR, dR, trivial⟩ ?_
    obtain ⟨e12, he10, h1_⟩ := oS h1_
    obtain ⟨hz11, h1_⟩ := need_some h1_
    obtain ⟨x13, hx12, h1_⟩ := oL h1_
    obtain ⟨x14, hx13, h1_⟩ := oL h1_
    obtain ⟨L15, he14, h1_⟩ := oS h1_
    refine RunC.region_draw (Γ' := [⟨1, some (L11.map (ik .u64))⟩, ⟨1, some (mpx [x (encE es3), i64 ck3] r1)⟩, ⟨1, some [mref 1 1, x (encE (ds1 ++ [em1])), i64 ck3, i64 ck3]⟩, (z01l u2 k5 k6)]) 10 mixed 
     (tm rfl (oref 0 1 0 a0.toNat) <|
     (tl rfl (optr 3 (u2 + 1) 1) (LOp.fao und101 rfl siz2 rfl rfl rfl) <|
     (TR.d (r := i64 k6) (fs := []) rfl rfl (TOp.load1_o rfl rfl agg2 rfl rfl) <|
     (TR.d (r := optr 0 1 k6.toNat) (fs := []) rfl rfl (TOp.ixo und124 siz129 rfl rfl rfl (at_in he10 ((setAt?_len he9).trans hl4)) rfl) <|
     (TR.d (r := ik .u64 e12) (fs := []) rfl rfl (TOp.load1_o rfl (at_cell he10) agg129 rfl rfl) <|
     (tl rfl (optr 3 (u2 + 1) 0) (LOp.fao und101 rfl siz2 rfl rfl rfl) <|
     (TR.d (r := i64 k5) (fs := []) rfl rfl (TOp.load1_o rfl rfl agg2 rfl rfl) <|
     (tl rfl (ik .u64 x13) (LOp.eqr (LOp.shl rfl rfl rfl (of_decide_eq_true hz11)) (congrArg (ik .u64) hx12)) <|
     (tl rfl (ik .u64 x14) (LOp.eqr (LOp.ior rfl rfl rfl) (congrArg (ik .u64) hx13)) <|
     (TR.d (r := optr 0 1 k6.toNat) (fs := []) rfl rfl (TOp.ixo und124 siz129 rfl rfl rfl (set_in he14 ((setAt?_len he9).trans hl4)) rfl) <|
     TR.nil)))))))))) rfl (by kernel_rfl) rfl fills_nil rfl ?_
    iterate 10 refine ROps.dropS ?_
    refine ROps.drop0<|ROps.st (f := (ik .u64)) (i := k6) (Γ' := [⟨1, some (L15.map (ik .u64))⟩, ⟨1, some (mpx [x (encE es3), i64 ck3] r1)⟩, ⟨1, some [mref 1 1, x (encE (ds1 ++ [em1])), i64 ck3, i64 ck3]⟩, (z01l u2 k5 k6)]) rfl siz129 rfl rfl rfl aR rfl rfl rfl he14 rfl<|zN ?_
    cases oI h1_
    exact ⟨rfl, ⟨((setAt?_len he14).trans ((setAt?_len he9).trans hl4)), trivial⟩, (u2 + 1), ⟨aR, aR, trivial⟩, ⟨dR, dR, dR, dL, trivial⟩⟩
   ·refine yW<|yl rfl (optr 3 (u2 + 1) 0) (LOp.fao und101 rfl siz2 rfl rfl rfl)<|yd rfl (i64 k5) (TOp.load1_o rfl rfl agg2 rfl rfl)<|yl rfl (optr 3 (u2 + 1) 1) (LOp.fao und101 rfl siz2 rfl rfl rfl)<|yd rfl (i64 k6) (TOp.load1_o rfl rfl agg2 rfl rfl)<|yl rfl (b false) (LOp.eqb (LOp.neq rfl rfl rfl) hc4)<|zN ?_
    refine yF<|RunC.skip ?_
    cases oI h1_
    exact ⟨rfl, ⟨hl4, trivial⟩, (u2 + 1), ⟨aR, aR, trivial⟩, ⟨dR, dR, dR, dL, trivial⟩⟩
  ·rintro u2 L3 ds1 ⟨hl4, _⟩ hR1
   exact ⟨L3, u2, hl4, hR1, ⟨aR, trivial⟩, ⟨dR, dR, dL, dL, trivial⟩⟩
 ·rintro τ2 Γ2 ⟨L16w, u2w, hl4, hR1, hw2, hd2⟩
  refine RunC.wl hw2 hd2 ?_
  obtain ⟨hr1_0, _⟩ := hR1
  replace hr1_0 : L16 = L16w := hr1_0
  subst hr1_0
  replace h : K12_k1 L16 = some q0 := h
  unfold K12_k1 at h
  refine RunC.wl (τ' := [(3, oref 0 1 0 a0.toNat)]) (Γ' := [⟨1, some (L16.map (ik .u64))⟩, ⟨1, none⟩, ⟨1, none⟩, ⟨u2w, none⟩]) ⟨aR, trivial⟩ ⟨dR, dL, dL, dL, trivial⟩<|zQ<|ym rfl (oref 0 1 0 a0.toNat)<|ya rfl (oref 0 1 0 a0.toNat)<|zN ?_
  refine RunC.ret ?_
  have hq := oI h
  subst q0
  exact yB (oref 0 1 0 L16.length) [(0, 1)] (Res.eq (Res.one rfl (RV.tmp rfl)) (by first | rfl | (rw [(show L16.length = a0.toNat from hl4)] <;> rfl))) (SelL.arr0 (f := (ik .u64)) (fun _ => rfl) rfl trivial)

def K13 (a0 : List Int) : Option (Int) :=
 some (a0.length : Int)
theorem K13_ok (a0 : List Int) (q0 : Int) (h : K13 a0 = some q0) : Ev Try.prog 186 [sl a0.length (a0.map (ik .u64))] [] (i64 q0) [] := by
 refine yE Try.func186 0 11 0 [(0, sl a0.length (a0.map (ik .u64)))] [] rfl ?_
 unfold K13 at h
 refine zQ<|ya rfl (i64 0)<|zN ?_
 refine zQ<|ym rfl (sl a0.length (a0.map (ik .u64)))<|yl rfl (i64 (a0.length : Int)) (LOp.len_sl und123 rfl rfl)<|ya rfl (i64 (a0.length : Int))<|zN ?_
 refine RunC.ret ?_
 have hq := oI h
 subst q0
 exact bR rfl

def K14_k2 (v4 : Int) (L9 : List Int) : Option (LR ((List Int) × Int) ((List Int)) ((List Int))) :=
 olet (IntKind.i64.wrap (v4 + 1)) fun (x10 : Int) =>
 some (LR.next (L9, x10))
def K14_b3 (a0 : Int) (L3 : List Int) (v4 : Int) : Option (LR ((List Int) × Int) ((List Int)) ((List Int))) :=
 bsel (decide (v4 < 64)) (
  need (decide ((0 : Int) ≤ v4)) <|
  olet (ishr .u64 a0 v4) fun (x5 : Int) =>
  olet (iand .u64 x5 1) fun (x6 : Int) =>
  bsel (decide (x6 = 1)) (
   need (apok 8 L3.length 1) <|
   K14_k2 v4 (L3 ++ ([v4] : List Int))) (
   K14_k2 v4 L3)) (
  some (LR.out L3))
def K14_s3 (a0 : Int) : ((List Int) × Int) → Option (LR ((List Int) × Int) ((List Int)) ((List Int))) := fun s => K14_b3 a0 s.1 s.2
def K14_k3 (L13 : List Int) : Option ((List Int)) :=
 some L13
def K14 (a0 : Int) : Option ((List Int)) :=
 obind (loopM (K14_s3 a0) (([] : List Int), 0)) fun z => osum z (fun e => K14_k3 e) (fun r => some r)
theorem K14_ok (a0 : Int) (q0 : List Int) (h : K14 a0 = some q0) : Ev Try.prog 188 [ik .u64 a0] [] (oref 0 0 0 q0.length) [oJ 0 q0] := by
 refine yE Try.func188 2 41 0 [(0, ik .u64 a0)] [o0, o0] rfl ?_
 unfold K14 at h
 refine zQ<|ya rfl nilsl<|zN ?_
 refine zQ<|ye rfl (oref 0 1 0 0) ([oJ 1 [], o0]) (TOp.buildSlice_o (g := o0) (za := i64 0) (qs := []) 0 rfl und22 siz2 zer2 rfl zel2 rfl rfl trivial rfl)<|ya rfl (oref 0 1 0 0)<|zN ?_
 refine yS<|zQ<|ym rfl (i64 0)<|zN ?_
 obtain ⟨z4, hz_4, h⟩ := oS h
 refine RunC.cutN (fun τ Γ => ∃ (L13 : List Int) (u11 : Nat) (u12 : Nat), WeakLe τ [(3, oref 0 u11 0 L13.length)] ∧ DeadLe Γ [oJ u11 L13, ⟨u12, none⟩] ∧ z4 = .inl L13) ?_ ?_
 ·refine RunC.block (RunC.loop (RunL.loopM (x := z4) (K14_s3 a0) (fun (s : (List Int) × Int) τ Γ => ∃ (u1 : Nat) (u2 : Nat), WeakLe τ [(0, ik .u64 a0), (3, oref 0 u1 0 s.1.length), (6, i64 s.2)] ∧ DeadLe Γ [⟨u1, some (s.1.map i64)⟩, ⟨u2, none⟩]) ?_ _ _ _ hz_4 ⟨1, 0, ⟨aR, aR, aR, trivial⟩, ⟨dR, dL, trivial⟩⟩))
  rintro ⟨L3, v4⟩ τ4 Γ4 y4_ ⟨u1, u2, hw4, hd4⟩ h4_ ho4 hr4
  refine RunC.wl (τ' := [(0, ik .u64 a0), (3, oref 0 u1 0 L3.length), (6, i64 v4)]) (Γ' := [oJ u1 L3, ⟨u2, none⟩]) hw4 hd4 ?_
  replace h4_ : K14_b3 a0 L3 v4 = some y4_ := h4_
  unfold K14_b3 at h4_
  refine yS ?_
  rcases oB h4_ with ⟨hc1, h4_⟩ | ⟨hc1, h4_⟩
  ·refine yW<|yl rfl (b true) (LOp.eqb (LOp.lss rfl rfl rfl) hc1)<|zN ?_
   refine yS<|yT<|RunC.skip<|yS<|RunC.cutN (fun τ Γ => ∃ (L9 : List Int) (u7 : Nat) (u8 : Nat), WeakLe τ [(0, ik .u64 a0), (3, oref 0 u7 0 L9.length), (6, i64 v4)] ∧ DeadLe Γ [oJ u7 L9, ⟨u8, none⟩] ∧ K14_k2 v4 L9 = some y4_) ?_ ?_
   ·refine RunC.block<|zQ<|ym rfl (i64 v4)<|ya rfl (i64 v4)<|zN ?_
    refine yS ?_
    obtain ⟨hz2, h4_⟩ := need_some h4_
    obtain ⟨x5, hx3, h4_⟩ := oL h4_
    obtain ⟨x6, hx4, h4_⟩ := oL h4_
    rcases oB h4_ with ⟨hc5, h4_⟩ | ⟨hc5, h4_⟩
    ·refine yW<|ym rfl (ik .u64 a0)<|ym rfl (i64 v4)<|yl rfl (ik .u64 x5) (LOp.eqr (LOp.shr rfl rfl rfl (of_decide_eq_true hz2)) (congrArg (ik .u64) hx3))<|yl rfl (ik .u64 x6) (LOp.eqr (LOp.iand rfl rfl rfl) (congrArg (ik .u64) hx4))<|yl rfl (b true) (LOp.eqb (LOp.eql rfl rfl rfl) hc5)<|zN ?_
     refine yT ?_
     obtain ⟨hm6, h4_⟩ := need_some h4_
     refine yW<|ym rfl (oref 0 u1 0 L3.length)<|ym rfl (i64 v4)<|ye rfl (oref 1 (u2 + 1) 0 1) ([oJ u1 L3, oJ (u2 + 1) [v4]]) (TOp.buildSlice_o (g := ⟨u2, none⟩) (za := i64 0) (qs := [(0, [i64 v4])]) 1 rfl und22 siz2 zer2 rfl zel2 rfl rfl ⟨rfl, ⟨_, ALe.refl _, rfl⟩, trivial⟩ rfl)<|ROps.app (f := i64) (xs := L3) (ys := ([v4] : List Int)) (Γ' := [oJ (u1 + 1) (L3 ++ [v4]), oJ (u2 + 1) [v4]]) rfl pun22 inf2 rfl rfl rfl rfl rfl rfl rfl rfl rfl (by simp) (ReadAs.own rfl (by simp)) (ones_map (fun _ => rfl)) (ap_by hm6) (ap_mx hm6) rfl<|ya rfl (oref 0 (u1 + 1) 0 (L3.length + 1))<|zN ?_
     exact ⟨(L3 ++ ([v4] : List Int)), (u1 + 1), (u2 + 1), ⟨aR, (ALe.eq (by rw [(app_len rfl rfl)] <;> rfl)), aR, trivial⟩, ⟨dR, dL, trivial⟩, h4_⟩
    ·refine yW<|ym rfl (ik .u64 a0)<|ym rfl (i64 v4)<|yl rfl (ik .u64 x5) (LOp.eqr (LOp.shr rfl rfl rfl (of_decide_eq_true hz2)) (congrArg (ik .u64) hx3))<|yl rfl (ik .u64 x6) (LOp.eqr (LOp.iand rfl rfl rfl) (congrArg (ik .u64) hx4))<|yl rfl (b false) (LOp.eqb (LOp.eql rfl rfl rfl) hc5)<|zN ?_
     refine yF<|RunC.skip ?_
     exact ⟨L3, u1, u2, ⟨aR, aR, aR, trivial⟩, ⟨dR, dL, trivial⟩, h4_⟩
   ·rintro τ5 Γ5 ⟨L9, u7, u8, hw5, hd5, h4_⟩
    refine RunC.wl hw5 hd5 ?_
    unfold K14_k2 at h4_
    obtain ⟨x10, hx7, h4_⟩ := oL h4_
    refine yW<|yl rfl (i64 x10) (LOp.eqr (LOp.add rfl rfl rfl) (congrArg (ik .i64) hx7))<|ym rfl (i64 x10)<|zN ?_
    cases oI h4_
    exact ⟨_, rfl, u7, u8, ⟨aR, aR, aR, trivial⟩, ⟨dR, dL, trivial⟩⟩
  ·refine yW<|yl rfl (b false) (LOp.eqb (LOp.lss rfl rfl rfl) hc1)<|zN ?_
   refine yS<|yF<|RunC.exit ?_
   cases oI h4_
   have hx := ho4 _ rfl
   exact ⟨L3, u1, u2, ⟨aR, trivial⟩, ⟨dR, dL, trivial⟩, hx⟩
 ·rintro τ6 Γ6 ⟨L13, u11, u12, hw6, hd6, rfl⟩
  refine RunC.wl hw6 hd6 ?_
  replace h : K14_k3 L13 = some q0 := h
  unfold K14_k3 at h
  refine zQ<|ym rfl (oref 0 u11 0 L13.length)<|ya rfl (oref 0 u11 0 L13.length)<|zN ?_
  refine RunC.ret ?_
  have hq := oI h
  subst q0
  exact bodyQ.mk (r' := oref 0 u11 0 L13.length) [(0, u11)] (.inr rfl) rfl (ndB_ok rfl) (by simp [ren, rens, sigma]) rfl (Res.one rfl (RV.tmp rfl)) (SelL.arr0 (f := i64) (fun _ => rfl) rfl trivial)

def K15_b1 (a0 : Int) (e1 : Int) (r2 : List Int) (L3 : List Int) (v5 : Int) : Option (LR ((List Int) × Int) ((List Int)) (Int × (List Int))) :=
 bsel (decide (v5 < ((r2.length : Nat) : Int))) (
  obind (at? r2 v5) fun (e6 : Int) =>
  obind (at? L3 e6) fun (e7 : Int) =>
  olet (ior .u64 e7 e1) fun (x8 : Int) =>
  need (decide ((0 : Int) ≤ a0)) <|
  olet (ishl .u64 1 a0) fun (x9 : Int) =>
  need (decide ((0 : Int) ≤ e6)) <|
  olet (ishl .u64 1 e6) fun (x10 : Int) =>
  olet (ior .u64 x9 x10) fun (x11 : Int) =>
  olet (iandn .u64 x8 x11) fun (x12 : Int) =>
  obind (setAt? L3 e6 x12) fun (L13 : List Int) =>
  olet (IntKind.i64.wrap (v5 + 1)) fun (x14 : Int) =>
  some (LR.next (L13, x14))) (
  some (LR.out L3))
def K15_s1 (a0 : Int) (e1 : Int) (r2 : List Int) : ((List Int) × Int) → Option (LR ((List Int) × Int) ((List Int)) (Int × (List Int))) := fun s => K15_b1 a0 e1 r2 s.1 s.2
def K15_k1 (a0 : Int) (e1 : Int) (L15 : List Int) : Option (Int × (List Int)) :=
 obind (setAt? L15 a0 0) fun (L17 : List Int) =>
 some (e1, L17)
def K15 (a0 : Int) (a1 : List Int) : Option (Int × (List Int)) :=
 obind (at? a1 a0) fun (e1 : Int) =>
 obind (K14 e1) fun (r2 : List Int) =>
 obind (loopM (K15_s1 a0 e1 r2) (a1, 0)) fun z => osum z (fun e => K15_k1 a0 e1 e) (fun r => some r)
theorem K15_ok (a0 : Int) (a1 : List Int) (q0 : Int) (q1 : List Int) (h : K15 a0 a1 = some (q0, q1)) : Ev Try.prog 187 [oref 0 0 0 a1.length, i64 a0] [⟨0, some (a1.map (ik .u64))⟩] (ik .u64 q0) [⟨0, some (q1.map (ik .u64))⟩] := by
 refine Ev.start Try.func187 rfl rfl 1 (τ := [(0, oref 0 0 0 a1.length), (1, i64 a0)]) rfl (Γ' := [⟨0, some (a1.map (ik .u64))⟩, o0]) rfl (n := 78) rfl (g := 1) rfl (by decide) ?_
 unfold K15 at h
 refine zQ<|ya rfl (ik .u64 0)<|zN ?_
 refine yS ?_
 obtain ⟨e1, he1, h⟩ := oS h
 refine yW<|ym rfl (oref 0 0 0 a1.length)<|ym rfl (i64 a0)<|yd rfl (optr 0 0 a0.toNat) (TOp.ixo und124 siz129 rfl rfl rfl (at_in he1 rfl) rfl)<|yd rfl (ik .u64 e1) (TOp.load1_o rfl (at_cell he1) agg129 rfl rfl)<|ya rfl (ik .u64 e1)<|zN ?_
 refine yS<|yS ?_
 obtain ⟨r2, hf2, h⟩ := oS h
 refine yW<|ym rfl (ik .u64 e1)<|ye rfl (oref 1 1 0 r2.length) [⟨0, some (a1.map (ik .u64))⟩, oJ 1 r2] (TOp.callBN (ls := [(r2.map i64)]) [1] (CallAs.func ent188 rfl rfl) bN0 rfl (K14_ok e1 r2 hf2) (and_all (lts0_map (f := i64) (fun _ => rfl) _) rfl) (and_all (noss_map (f := i64) (fun _ => rfl) _) rfl) rfl (by decide) (ns_of ⟨⟨_, rfl⟩, trivial⟩))<|yl rfl (i64 ((r2.length : Nat) : Int)) (LOp.len_oref und22 rfl rfl)<|ym rfl (i64 0)<|zN ?_
 obtain ⟨z2, hz_2, h⟩ := oS h
 refine RunC.cutN (fun τ Γ => ∃ (L15 : List Int), L15.length = a1.length ∧ WeakLe τ [(0, oref 0 0 0 a1.length), (1, i64 a0), (5, ik .u64 e1)] ∧ DeadLe Γ [⟨0, some (L15.map (ik .u64))⟩, ⟨1, none⟩] ∧ z2 = .inl L15) ?_ ?_
 ·refine RunC.block (RunC.loop (RunL.loopM (x := z2) (K15_s1 a0 e1 r2) (fun (s : (List Int) × Int) τ Γ => s.1.length = a1.length ∧ WeakLe τ [(0, oref 0 0 0 a1.length), (1, i64 a0), (5, ik .u64 e1), (13, oref 1 1 0 r2.length), (14, i64 ((r2.length : Nat) : Int)), (15, i64 s.2)] ∧ DeadLe Γ [⟨0, some (s.1.map (ik .u64))⟩, oJ 1 r2]) ?_ _ _ _ hz_2 ⟨rfl, ⟨aR, aR, aR, aR, aR, aR, trivial⟩, ⟨dR, dR, trivial⟩⟩))
  rintro ⟨L3, v5⟩ τ2 Γ2 y2_ ⟨hl4, hw2, hd2⟩ h2_ ho2 hr2
  refine RunC.wl (τ' := [(0, oref 0 0 0 a1.length), (1, i64 a0), (5, ik .u64 e1), (13, oref 1 1 0 r2.length), (14, i64 ((r2.length : Nat) : Int)), (15, i64 v5)]) (Γ' := [⟨0, some (L3.map (ik .u64))⟩, oJ 1 r2]) hw2 hd2 ?_
  replace hl4 : L3.length = a1.length := hl4
  replace h2_ : K15_b1 a0 e1 r2 L3 v5 = some y2_ := h2_
  unfold K15_b1 at h2_
  refine yS ?_
  rcases oB h2_ with ⟨hc3, h2_⟩ | ⟨hc3, h2_⟩
  ·refine yW<|yl rfl (b true) (LOp.eqb (LOp.lss rfl rfl rfl) hc3)<|zN ?_
   refine yS<|yT<|RunC.skip<|yS<|RunC.block<|yS ?_
   obtain ⟨e6, he4, h2_⟩ := oS h2_
   refine yW<|yd rfl (optr 1 1 v5.toNat) (TOp.ixo und22 siz2 rfl rfl rfl (at_in he4 rfl) rfl)<|yd rfl (i64 e6) (TOp.load1_o rfl (at_cell he4) agg2 rfl rfl)<|ya rfl (i64 e6)<|zN ?_
   obtain ⟨e7, he5, h2_⟩ := oS h2_
   obtain ⟨x8, hx6, h2_⟩ := oL h2_
   obtain ⟨hz7, h2_⟩ := need_some h2_
   obtain ⟨x9, hx8, h2_⟩ := oL h2_
   obtain ⟨hz9, h2_⟩ := need_some h2_
   obtain ⟨x10, hx10, h2_⟩ := oL h2_
   obtain ⟨x11, hx11, h2_⟩ := oL h2_
   obtain ⟨x12, hx12, h2_⟩ := oL h2_
   obtain ⟨L13, he13, h2_⟩ := oS h2_
   refine RunC.region_draw (Γ' := [⟨0, some (L3.map (ik .u64))⟩, oJ 1 r2]) 15 mixed 
    (tm rfl (oref 0 0 0 a1.length) <|
    (tm rfl (i64 e6) <|
    (tm rfl (oref 0 0 0 a1.length) <|
    (tm rfl (i64 e6) <|
    (TR.d (r := optr 0 0 e6.toNat) (fs := []) rfl rfl (TOp.ixo und124 siz129 rfl rfl rfl (at_in he5 hl4) rfl) <|
    (TR.d (r := ik .u64 e7) (fs := []) rfl rfl (TOp.load1_o rfl (at_cell he5) agg129 rfl rfl) <|
    (tm rfl (ik .u64 e1) <|
    (tl rfl (ik .u64 x8) (LOp.eqr (LOp.ior rfl rfl rfl) (congrArg (ik .u64) hx6)) <|
    (tm rfl (i64 a0) <|
    (tl rfl (ik .u64 x9) (LOp.eqr (LOp.shl rfl rfl rfl (of_decide_eq_true hz7)) (congrArg (ik .u64) hx8)) <|
    (tm rfl (i64 e6) <|
    (tl rfl (ik .u64 x10) (LOp.eqr (LOp.shl rfl rfl rfl (of_decide_eq_true hz9)) (congrArg (ik .u64) hx10)) <|
    (tl rfl (ik .u64 x11) (LOp.eqr (LOp.ior rfl rfl rfl) (congrArg (ik .u64) hx11)) <|
    (tl rfl (ik .u64 x12) (LOp.eqr (LOp.iandn rfl rfl rfl) (congrArg (ik .u64) hx12)) <|
    (TR.d (r := optr 0 0 e6.toNat) (fs := []) rfl rfl (TOp.ixo und124 siz129 rfl rfl rfl (set_in he13 hl4) rfl) <|
    TR.nil))))))))))))))) rfl (by kernel_rfl) rfl fills_nil rfl ?_
   iterate 15 refine ROps.dropS ?_
   refine ROps.drop0<|ROps.st (f := (ik .u64)) (i := e6) (Γ' := [⟨0, some (L13.map (ik .u64))⟩, oJ 1 r2]) rfl siz129 rfl rfl rfl aR rfl rfl rfl he13 rfl<|zN ?_
   refine RunC.wl (τ' := [(0, oref 0 0 0 a1.length), (1, i64 a0), (5, ik .u64 e1), (13, oref 1 1 0 r2.length), (14, i64 ((r2.length : Nat) : Int)), (15, i64 v5)]) (Γ' := [⟨0, some (L13.map (ik .u64))⟩, oJ 1 r2]) ⟨aR, aR, aR, aR, aR, aR, trivial⟩ ⟨dR, dR, trivial⟩ ?_
   obtain ⟨x14, hx14, h2_⟩ := oL h2_
   refine yW<|yl rfl (i64 x14) (LOp.eqr (LOp.add rfl rfl rfl) (congrArg (ik .i64) hx14))<|ym rfl (i64 x14)<|zN ?_
   cases oI h2_
   exact ⟨_, rfl, ((setAt?_len he13).trans hl4), ⟨aR, aR, aR, aR, aR, aR, trivial⟩, ⟨dR, dR, trivial⟩⟩
  ·refine yW<|yl rfl (b false) (LOp.eqb (LOp.lss rfl rfl rfl) hc3)<|zN ?_
   refine yS<|yF<|RunC.exit ?_
   cases oI h2_
   have hx := ho2 _ rfl
   exact ⟨L3, hl4, ⟨aR, aR, aR, trivial⟩, ⟨dR, dL, trivial⟩, hx⟩
 ·rintro τ3 Γ3 ⟨L15, hl16, hw3, hd3, rfl⟩
  refine RunC.wl hw3 hd3 ?_
  replace h : K15_k1 a0 e1 L15 = some (q0, q1) := h
  unfold K15_k1 at h
  refine yS ?_
  obtain ⟨L17, he15, h⟩ := oS h
  refine yW<|ym rfl (oref 0 0 0 a1.length)<|ym rfl (i64 a0)<|yd rfl (optr 0 0 a0.toNat) (TOp.ixo und124 siz129 rfl rfl rfl (set_in he15 hl16) rfl)<|ROps.st (f := (ik .u64)) (i := a0) (Γ' := [⟨0, some (L17.map (ik .u64))⟩, ⟨1, none⟩]) rfl siz129 rfl rfl rfl aR rfl rfl rfl he15 rfl<|zN ?_
  refine zQ<|ym rfl (ik .u64 e1)<|ya rfl (ik .u64 e1)<|zN ?_
  refine RunC.ret ?_
  have hq := oI h
  obtain ⟨hq0, hq⟩ := Prod.mk.inj hq
  subst q0
  subst q1
  exact yB (ik .u64 e1) [(0, 0)] (Res.one rfl (RV.tmp rfl)) (SelL.arr (f := (ik .u64)) (fun _ => rfl) rfl trivial)

def K16_b1 (a0 : List Int) (r1 : Int) (L4 : List Int) (L6 : List Int) (v7 : Int) : Option (LR ((List Int) × (List Int) × Int) ((List Int) × (List Int)) ((List Int) × (List Int))) :=
 bsel (decide (v7 < r1)) (
  obind2 (K15 v7 L4) fun (r8 : Int) (r9 : List Int) =>
  need (decide (r9.length = a0.length)) <|
  need (apok 8 L6.length 1) <|
  olet (IntKind.i64.wrap (v7 + 1)) fun (x10 : Int) =>
  some (LR.next (r9, (L6 ++ ([r8] : List Int)), x10))) (
  some (LR.out (L4, L6)))
def K16_s1 (a0 : List Int) (r1 : Int) : ((List Int) × (List Int) × Int) → Option (LR ((List Int) × (List Int) × Int) ((List Int) × (List Int)) ((List Int) × (List Int))) := fun s => K16_b1 a0 r1 s.1 s.2.1 s.2.2
def K16_k1 (L13 : List Int) (L15 : List Int) : Option ((List Int) × (List Int)) :=
 some (L13, L15)
def K16 (a0 : List Int) : Option ((List Int) × (List Int)) :=
 obind (K13 a0) fun (r1 : Int) =>
 obind (loopM (K16_s1 a0 r1) (a0, ([] : List Int), 0)) fun z => osum z (fun e => K16_k1 e.1 e.2) (fun r => some r)
abbrev z01m (r9 : List Int) : Ob := ⟨0, some (r9.map (ik .u64))⟩
theorem K16_ok (a0 : List Int) (q0 : List Int) (q1 : List Int) (h : K16 a0 = some (q0, q1)) : Ev Try.prog 115 [oref 0 0 0 a0.length] [⟨0, some (a0.map (ik .u64))⟩] (oref 1 0 0 q1.length) [⟨0, some (q0.map (ik .u64))⟩, ⟨0, some (q1.map (ik .u64))⟩] := by
 refine Ev.start Try.func115 rfl rfl 2 (τ := [(0, oref 0 0 0 a0.length)]) rfl (Γ' := [⟨0, some (a0.map (ik .u64))⟩, o0, o0]) rfl (n := 38) rfl (g := 1) rfl (by decide) ?_
 unfold K16 at h
 refine zQ<|ya rfl nilsl<|zN ?_
 refine zQ<|ye rfl (oref 1 1 0 0) ([⟨0, some (a0.map (ik .u64))⟩, ⟨1, some (([] : List Int).map (ik .u64))⟩, o0]) (TOp.buildSlice_o (g := o0) (za := ik .u64 0) (qs := []) 1 rfl und123 siz129 zer129 rfl zel129 rfl rfl trivial rfl)<|ya rfl (oref 1 1 0 0)<|zN ?_
 refine yS<|yS ?_
 obtain ⟨r1, hf1, h⟩ := oS h
 refine yW<|ym rfl (oref 0 0 0 a0.length)<|yd rfl (i64 r1) (yc ent186 rfl rfl (Bors.cons (Bor.own (f := (ik .u64)) (fun _ => rfl) rfl rfl) bN) (K13_ok a0 r1 hf1))<|ym rfl (i64 0)<|zN ?_
 obtain ⟨z2, hz_2, h⟩ := oS h
 refine RunC.cutN (fun τ Γ => ∃ (L13 : List Int) (L15 : List Int) (u11 : Nat) (u12 : Nat), L13.length = a0.length ∧ WeakLe τ [(3, oref 1 u11 0 L15.length)] ∧ DeadLe Γ [⟨0, some (L13.map (ik .u64))⟩, ⟨u11, some (L15.map (ik .u64))⟩, ⟨u12, none⟩] ∧ z2 = .inl (L13, L15)) ?_ ?_
 ·refine RunC.block (RunC.loop (RunL.loopM (x := z2) (K16_s1 a0 r1) (fun (s : (List Int) × (List Int) × Int) τ Γ => ∃ (u2 : Nat) (u3 : Nat), s.1.length = a0.length ∧ WeakLe τ [(0, oref 0 0 0 a0.length), (3, oref 1 u2 0 s.2.1.length), (7, i64 r1), (8, i64 s.2.2)] ∧ DeadLe Γ [⟨0, some (s.1.map (ik .u64))⟩, ⟨u2, some (s.2.1.map (ik .u64))⟩, ⟨u3, none⟩]) ?_ _ _ _ hz_2 ⟨1, 0, rfl, ⟨aR, aR, aR, aR, trivial⟩, ⟨dR, dR, dL, trivial⟩⟩))
  rintro ⟨L4, L6, v7⟩ τ2 Γ2 y2_ ⟨u2, u3, hl5, hw2, hd2⟩ h2_ ho2 hr2
  refine RunC.wl (τ' := [(0, oref 0 0 0 a0.length), (3, oref 1 u2 0 L6.length), (7, i64 r1), (8, i64 v7)]) (Γ' := [⟨0, some (L4.map (ik .u64))⟩, ⟨u2, some (L6.map (ik .u64))⟩, ⟨u3, none⟩]) hw2 hd2 ?_
  replace hl5 : L4.length = a0.length := hl5
  replace h2_ : K16_b1 a0 r1 L4 L6 v7 = some y2_ := h2_
  unfold K16_b1 at h2_
  refine yS ?_
  rcases oB h2_ with ⟨hc2, h2_⟩ | ⟨hc2, h2_⟩
  ·refine yW<|yl rfl (b true) (LOp.eqb (LOp.lss rfl rfl rfl) hc2)<|zN ?_
   refine yS<|yT<|RunC.skip<|yS<|RunC.block<|zQ<|ym rfl (i64 v7)<|ya rfl (i64 v7)<|zN ?_
   obtain ⟨r8, r9, hf3, h2_⟩ := obind2_some h2_
   obtain ⟨hn4, h2_⟩ := need_some h2_
   obtain ⟨hm5, h2_⟩ := need_some h2_
   refine yW<|ym rfl (oref 1 u2 0 L6.length)<|ym rfl (oref 0 0 0 a0.length)<|ym rfl (i64 v7)<|ROps.callO (A := [oref 0 0 0 a0.length, i64 v7]) (args := [oref 0 0 0 L4.length, i64 v7]) (Γc := [⟨0, some (L4.map (ik .u64))⟩]) (Γc' := [(z01m r9)]) (r' := ik .u64 r8) (Γ' := [(z01m r9), ⟨u2, some (L6.map (ik .u64))⟩, ⟨u3, none⟩]) [(0, 0)] [] rfl (CallAs.func ent187 rfl rfl) rfl rfl (SelOk.of (ndB_ok rfl) (SelL.arr0 (f := (ik .u64)) (fun _ => rfl) rfl trivial)) (live_of ⟨⟨_, _, rfl⟩, trivial⟩) (by simp [ren, rens, sigma, rens_f32, rens_f64, rens_i64, rens_ik, rens_str, rens_cp, hl5]) rfl (K15_ok v7 L4 r8 r9 hf3) rfl (news_of trivial) (ndB_ok rfl) (by simp [ren, rens, sigma, of_decide_eq_true hn4]) (by simp [backOb, sigma, ren, rens, rens_f32, rens_f64, rens_i64, rens_ik, rens_str, rens_cp] <;> omega)<|ye rfl (oref 2 (u3 + 1) 0 1) ([(z01m r9), ⟨u2, some (L6.map (ik .u64))⟩, ⟨(u3 + 1), some (([r8] : List Int).map (ik .u64))⟩]) (TOp.buildSlice_o (g := ⟨u3, none⟩) (za := ik .u64 0) (qs := [(0, [ik .u64 r8])]) 2 rfl und123 siz129 zer129 rfl zel129 rfl rfl ⟨rfl, ⟨_, ALe.refl _, rfl⟩, trivial⟩ rfl)<|ROps.app (f := (ik .u64)) (xs := L6) (ys := ([r8] : List Int)) (Γ' := [(z01m r9), ⟨(u2 + 1), some ((L6 ++ ([r8] : List Int)).map (ik .u64))⟩, ⟨(u3 + 1), some (([r8] : List Int).map (ik .u64))⟩]) rfl pun123 inf129 rfl rfl rfl rfl rfl rfl rfl rfl rfl (by simp) (ReadAs.own rfl (by simp)) (ones_map (fun _ => rfl)) (ap_by hm5) (ap_mx hm5) rfl<|ya rfl (oref 1 (u2 + 1) 0 (L6.length + 1))<|zN ?_
   refine RunC.wl (τ' := [(0, oref 0 0 0 a0.length), (3, oref 1 (u2 + 1) 0 (L6.length + 1)), (7, i64 r1), (8, i64 v7)]) (Γ' := [(z01m r9), ⟨(u2 + 1), some ((L6 ++ ([r8] : List Int)).map (ik .u64))⟩, ⟨(u3 + 1), none⟩]) ⟨aR, aR, aR, aR, trivial⟩ ⟨dR, dR, dL, trivial⟩ ?_
   obtain ⟨x10, hx6, h2_⟩ := oL h2_
   refine yW<|yl rfl (i64 x10) (LOp.eqr (LOp.add rfl rfl rfl) (congrArg (ik .i64) hx6))<|ym rfl (i64 x10)<|zN ?_
   cases oI h2_
   exact ⟨_, rfl, (u2 + 1), (u3 + 1), (of_decide_eq_true hn4), ⟨aR, (ALe.eq (by rw [(app_len rfl rfl)] <;> rfl)), aR, aR, trivial⟩, ⟨dR, dR, dL, trivial⟩⟩
  ·refine yW<|yl rfl (b false) (LOp.eqb (LOp.lss rfl rfl rfl) hc2)<|zN ?_
   refine yS<|yF<|RunC.exit ?_
   cases oI h2_
   have hx := ho2 _ rfl
   exact ⟨L4, L6, u2, u3, hl5, ⟨aR, trivial⟩, ⟨dR, dR, dL, trivial⟩, hx⟩
 ·rintro τ3 Γ3 ⟨L13, L15, u11, u12, hl14, hw3, hd3, rfl⟩
  refine RunC.wl hw3 hd3 ?_
  replace h : K16_k1 L13 L15 = some (q0, q1) := h
  unfold K16_k1 at h
  refine zQ<|ym rfl (oref 1 u11 0 L15.length)<|ya rfl (oref 1 u11 0 L15.length)<|zN ?_
  refine RunC.ret ?_
  have hq := oI h
  obtain ⟨hq0, hq⟩ := Prod.mk.inj hq
  subst q0
  subst q1
  exact bodyQ.mk (r' := oref 1 u11 0 L15.length) [(0, 0), (1, u11)] (.inr rfl) rfl (show List.Nodup [0, 1] from by decide) (by simp [ren, rens, sigma]) rfl (Res.one rfl (RV.tmp rfl)) (SelL.arr (f := (ik .u64)) (fun _ => rfl) rfl (SelL.arr0 (f := (ik .u64)) (fun _ => rfl) rfl trivial))

def K17 (a0 : Int) (a1 : Int) (a2 : List Int) : Option (Bool) :=
 bsel (decide (a0 = a1)) (
  some true) (
  obind (at? a2 a1) fun (e1 : Int) =>
  need (decide ((0 : Int) ≤ a0)) <|
  olet (ishr .u64 e1 a0) fun (x2 : Int) =>
  olet (iand .u64 x2 1) fun (x3 : Int) =>
  some (decide (x3 = 1)))
theorem K17_ok (a0 : Int) (a1 : Int) (a2 : List Int) (q0 : Bool) (h : K17 a0 a1 a2 = some q0) : Ev Try.prog 117 [i64 a0, i64 a1, ptr [sl a2.length (a2.map (ik .u64))]] [] (b q0) [] := by
 refine yE Try.func117 0 39 0 ([(0, i64 a0), (1, i64 a1), (2, ptr [sl a2.length (a2.map (ik .u64))])]) [] rfl ?_
 unfold K17 at h
 refine zQ<|ya rfl (b false)<|zN ?_
 refine yS ?_
 rcases oB h with ⟨hc1, h⟩ | ⟨hc1, h⟩
 ·refine yW<|ym rfl (i64 a0)<|ym rfl (i64 a1)<|yl rfl (b true) (LOp.eqb (LOp.eql rfl rfl rfl) hc1)<|ym rfl (b true)<|yR rfl<|yR rfl<|yR rfl<|yR rfl<|yR rfl<|yR rfl<|yR rfl<|yR rfl<|yl rfl (b true) yq<|ya rfl (b true)<|zN ?_
  refine RunC.ret ?_
  have hq := oI h
  subst q0
  exact bR rfl
 ·obtain ⟨e1, he2, h⟩ := oS h
  obtain ⟨hz3, h⟩ := need_some h
  obtain ⟨x2, hx4, h⟩ := oL h
  obtain ⟨x3, hx5, h⟩ := oL h
  refine yW<|ym rfl (i64 a0)<|ym rfl (i64 a1)<|yl rfl (b false) (LOp.eqb (LOp.eql rfl rfl rfl) hc1)<|ym rfl (b false)<|yl rfl (sl a2.length (a2.map (ik .u64))) (n2 agg123)<|ym rfl (i64 a1)<|yl rfl (ptr [ik .u64 e1]) (LOp.le (LOp.ix (f := (ik .u64)) und123 siz129 rfl rfl rfl rfl he2) ALe.ptr)<|yl rfl (ik .u64 e1) (n2 agg129)<|ym rfl (i64 a0)<|yl rfl (ik .u64 x2) (LOp.eqr (LOp.shr rfl rfl rfl (of_decide_eq_true hz3)) (congrArg (ik .u64) hx4))<|yl rfl (ik .u64 x3) (LOp.eqr (LOp.iand rfl rfl rfl) (congrArg (ik .u64) hx5))<|yl rfl (b (decide (x3 = 1))) (LOp.eql rfl rfl rfl)<|yl rfl (b (decide (x3 = 1))) yp<|ya rfl (b (decide (x3 = 1)))<|zN ?_
  refine RunC.ret ?_
  have hq := oI h
  subst q0
  exact bR rfl

def K18 (a0 : F) (a1 : F) : Option (F) :=
 olet (fop .mul .f32 a0 a1) fun (x1 : F) =>
 some x1
theorem K18_ok (a0 : F) (a1 : F) (q0 : F) (h : K18 a0 a1 = some q0) : Ev Try.prog 86 [f32 a0, f32 a1] [] (f32 q0) [] := by
 refine yE Try.func86 0 17 0 [(0, f32 a0), (1, f32 a1)] [] rfl ?_
 unfold K18 at h
 refine zQ<|yl rfl (f32 (some 0)) (LOp.le (LOp.assign rfl rfl) (ALe.fl (by kernel_rfl) (by kernel_rfl)))<|zN ?_
 refine yS ?_
 obtain ⟨x1, hx1, h⟩ := oL h
 refine yW<|ym rfl (f32 a0)<|ym rfl (f32 a1)<|yd rfl (f32 x1) (TOp.eqr (TOp.fop (.inr (.inr (.inl rfl))) rfl (OpF.tmp rfl) (OpF.tmp rfl)) (congrArg (f .f32) hx1))<|ya rfl (f32 x1)<|zN ?_
 refine RunC.ret ?_
 have hq := oI h
 subst q0
 exact bR rfl

def K19 (a0 : F) : Option (F) :=
 olet (fsqrt a0) fun (x1 : F) =>
 some x1
theorem K19_ok (a0 : F) (q0 : F) (h : K19 a0 = some q0) : Ev Try.prog 197 [f64 a0] [] (f64 q0) [] := by
 refine yE Try.func197 0 11 0 [(0, f64 a0)] [] rfl ?_
 unfold K19 at h
 refine zQ<|yl rfl (f64 (some 0)) (LOp.le (LOp.assign rfl rfl) (ALe.fl (by kernel_rfl) (by kernel_rfl)))<|zN ?_
 refine yS ?_
 obtain ⟨x1, hx1, h⟩ := oL h
 refine yW<|ym rfl (f64 a0)<|yd rfl (f64 x1) (TOp.eqr (TOp.fsqrt ext212 rfl (OpF.tmp rfl)) (congrArg (f .f64) hx1))<|ya rfl (f64 x1)<|zN ?_
 refine RunC.ret ?_
 have hq := oI h
 subst q0
 exact bR rfl

def K1a (a0 : F) : Option (F) :=
 olet (fwiden a0) fun (x1 : F) =>
 obind (K19 x1) fun (r2 : F) =>
 obind (fnarrow r2) fun (y3 : F) =>
 some y3
theorem K1a_ok (a0 : F) (q0 : F) (h : K1a a0 = some q0) : Ev Try.prog 154 [f32 a0] [] (f32 q0) [] := by
 refine yE Try.func154 0 15 0 [(0, f32 a0)] [] rfl ?_
 unfold K1a at h
 refine zQ<|yl rfl (f32 (some 0)) (LOp.le (LOp.assign rfl rfl) (ALe.fl (by kernel_rfl) (by kernel_rfl)))<|zN ?_
 refine yS ?_
 obtain ⟨x1, hx1, h⟩ := oL h
 obtain ⟨r2, hf2, h⟩ := oS h
 obtain ⟨y3, hy3, h⟩ := oS h
 refine yW<|ym rfl (f32 a0)<|yd rfl (f64 x1) (TOp.eqr (TOp.widen (src := 26) (dst := 56) ⟨_, pun26⟩ pun56 rfl (OpF.tmp rfl)) (congrArg (f .f64) hx1))<|yd rfl (f64 r2) (yc ent197 rfl rfl bN0 (K19_ok x1 r2 hf2))<|yd rfl (f32 y3) (TOp.narrow (src := 56) (dst := 26) ⟨_, pun56⟩ pun26 rfl (OpF.tmp rfl) hy3)<|ya rfl (f32 y3)<|zN ?_
 refine RunC.ret ?_
 have hq := oI h
 subst q0
 exact bR rfl

def K1b_k17 (v6 : Int) (L21 : List (Int × Int × F)) : Option (LR ((List (Int × Int × F)) × Int) ((List (Int × Int × F))) (Int × Bool × (List Int) × (List Int) × (List F))) :=
 olet (IntKind.i64.wrap (v6 + 1)) fun (x22 : Int) =>
 some (LR.next (L21, x22))
def K1b_k15 (v10 : Int) (y13 : F) : Option (LR (F × Int) (F) (Int × Bool × (List Int) × (List Int) × (List F))) :=
 olet (IntKind.i64.wrap (v10 + 1)) fun (x14 : Int) =>
 some (LR.next (y13, x14))
def K1b_b16 (v3 : Int) (L5 : List (Int × Int × F)) (v6 : Int) (y9 : F) (v10 : Int) : Option (LR (F × Int) (F) (Int × Bool × (List Int) × (List Int) × (List F))) :=
 bsel (decide (v10 < v6)) (
  bsel ((mget L5 v3 v10).isSome) (
   bsel ((mget L5 v6 v10).isSome) (
    obind (K18 ((mget L5 v3 v10).getD (some 0)) ((mget L5 v6 v10).getD (some 0))) fun (r11 : F) =>
    olet (fop .sub .f32 y9 r11) fun (x12 : F) =>
    K1b_k15 v10 x12) (
    K1b_k15 v10 y9)) (
   bsel ((mget L5 v6 v10).isSome) (
    K1b_k15 v10 y9) (
    K1b_k15 v10 y9))) (
  some (LR.out y9))
def K1b_s16 (v3 : Int) (L5 : List (Int × Int × F)) (v6 : Int) : (F × Int) → Option (LR (F × Int) (F) (Int × Bool × (List Int) × (List Int) × (List F))) := fun s => K1b_b16 v3 L5 v6 s.1 s.2
def K1b_k16 (v3 : Int) (L5 : List (Int × Int × F)) (v6 : Int) (y15 : F) : Option (LR ((List (Int × Int × F)) × Int) ((List (Int × Int × F))) (Int × Bool × (List Int) × (List Int) × (List F))) :=
 bsel (decide (v6 < v3)) (
  olet ((mget L5 v6 v6).getD (some 0)) fun (x16 : F) =>
  olet (fop .quo .f32 y15 x16) fun (x17 : F) =>
  olet (mput L5 v3 v6 x17) fun (L18 : List (Int × Int × F)) =>
  K1b_k17 v6 L18) (
  bsel (flt .f32 (some 0) y15) (
   obind (K1a y15) fun (r19 : F) =>
   olet (mput L5 v3 v6 r19) fun (L20 : List (Int × Int × F)) =>
   K1b_k17 v6 L20) (
   some (LR.ret (0, false, ([] : List Int), ([] : List Int), ([] : List F)))))
def K1b_b18 (a4 : List Int) (r1 : List (Int × Int × F)) (v3 : Int) (x4 : Int) (L5 : List (Int × Int × F)) (v6 : Int) : Option (LR ((List (Int × Int × F)) × Int) ((List (Int × Int × F))) (Int × Bool × (List Int) × (List Int) × (List F))) :=
 bsel (decide (v6 < x4)) (
  obind (K17 v3 v6 a4) fun (r7 : Bool) =>
  bsel r7 (
   olet ((mget r1 v3 v6).getD (some 0)) fun (x8 : F) =>
   obind (loopM (K1b_s16 v3 L5 v6) (x8, 0)) fun z => osum z (fun e => K1b_k16 v3 L5 v6 e) (fun r => some (LR.ret r))) (
   K1b_k17 v6 L5)) (
  some (LR.out L5))
def K1b_s18 (a4 : List Int) (r1 : List (Int × Int × F)) (v3 : Int) (x4 : Int) : ((List (Int × Int × F)) × Int) → Option (LR ((List (Int × Int × F)) × Int) ((List (Int × Int × F))) (Int × Bool × (List Int) × (List Int) × (List F))) := fun s => K1b_b18 a4 r1 v3 x4 s.1 s.2
def K1b_k18 (v3 : Int) (L23 : List (Int × Int × F)) : Option (LR ((List (Int × Int × F)) × Int) ((List (Int × Int × F))) (Int × Bool × (List Int) × (List Int) × (List F))) :=
 olet (IntKind.i64.wrap (v3 + 1)) fun (x24 : Int) =>
 some (LR.next (L23, x24))
def K1b_b19 (a0 : Int) (a4 : List Int) (r1 : List (Int × Int × F)) (L2 : List (Int × Int × F)) (v3 : Int) : Option (LR ((List (Int × Int × F)) × Int) ((List (Int × Int × F))) (Int × Bool × (List Int) × (List Int) × (List F))) :=
 bsel (decide (v3 < a0)) (
  olet (IntKind.i64.wrap (v3 + 1)) fun (x4 : Int) =>
  obind (loopM (K1b_s18 a4 r1 v3 x4) (L2, 0)) fun z => osum z (fun e => K1b_k18 v3 e) (fun r => some (LR.ret r))) (
  some (LR.out L2))
def K1b_s19 (a0 : Int) (a4 : List Int) (r1 : List (Int × Int × F)) : ((List (Int × Int × F)) × Int) → Option (LR ((List (Int × Int × F)) × Int) ((List (Int × Int × F))) (Int × Bool × (List Int) × (List Int) × (List F))) := fun s => K1b_b19 a0 a4 r1 s.1 s.2
def K1b_k19 (a0 : Int) (L25 : List (Int × Int × F)) : Option (Int × Bool × (List Int) × (List Int) × (List F)) :=
 obind6 (K10 a0 L25) fun (r26 : Int) (r27 : Bool) (r28 : List (Int × Int × F)) (r29 : List Int) (r30 : List Int) (r31 : List F) =>
 some (r26, r27, r29, r30, r31)
def K1b (a0 : Int) (a1 : List Int) (a2 : List Int) (a3 : List F) (a4 : List Int) : Option (Int × Bool × (List Int) × (List Int) × (List F)) :=
 obind (K0z a0 a1 a2 a3) fun (r1 : List (Int × Int × F)) =>
 obind (loopM (K1b_s19 a0 a4 r1) (([] : List (Int × Int × F)), 0)) fun z => osum z (fun e => K1b_k19 a0 e) (fun r => some r)
abbrev z01n (a0 : Int) (a1 : List Int) (a2 : List Int) (a3 : List F) : List AV := [i64 a0, sl a1.length (a1.map i64), sl a2.length (a2.map i64), (sFc a3)]
abbrev z01o : Ob := ⟨1, some [i64 0, nilsl, nilsl, nilsl]⟩
abbrev z01p (a4 : List Int) : List AV := [ptr [sl a4.length (a4.map (ik .u64))]]
abbrev z01q (r1 : List (Int × Int × F)) (L5 : List (Int × Int × F)) : List Ob := [z01o, ⟨1, some (mpc r1)⟩, ⟨1, some (mpc L5)⟩, o0, o0, o0]
abbrev z01r (L5 : List (Int × Int × F)) (v6 : Int) (v10 : Int) : AV := tup [f32 ((mget L5 v6 v10).getD (some 0)), b ((mget L5 v6 v10).isSome)]
abbrev z01s (r26 : Int) (r29 : List Int) (r30 : List Int) (r31 : List F) : List AV := [i64 r26, oref 1 2 0 r29.length, oref 3 1 0 r30.length, oref 4 1 0 r31.length]
abbrev z01t (L5 : List (Int × Int × F)) (v6 : Int) (v10 : Int) : AV := f32 ((mget L5 v6 v10).getD (some 0))
abbrev z01u (L5 : List (Int × Int × F)) (v3 : Int) (v10 : Int) : AV := tup [f32 ((mget L5 v3 v10).getD (some 0)), b ((mget L5 v3 v10).isSome)]
theorem K1b_ok (a0 : Int) (a1 : List Int) (a2 : List Int) (a3 : List F) (a4 : List Int) (q0 : Int) (q1 : Bool) (q2 : List Int) (q3 : List Int) (q4 : List F) (h : K1b a0 a1 a2 a3 a4 = some (q0, q1, q2, q3, q4)) : Ev Try.prog 116 [agg [i64 a0, sl a1.length (a1.map i64), sl a2.length (a2.map i64), (sFc a3)], fn (.func 117) [] [ptr [sl a4.length (a4.map (ik .u64))]]] [] (tup [agg [i64 q0, oref 0 0 0 q2.length, oref 1 0 0 q3.length, oref 2 0 0 q4.length], b q1]) [oJ 0 q2, oJ 0 q3, oF 0 q4] := by
 refine yE Try.func116 6 205 0 ([(0, agg (z01n a0 a1 a2 a3)), (1, fn (.func 117) [] (z01p a4))]) [o0, o0, o0, o0, o0, o0] rfl ?_
 unfold K1b at h
 refine zQ<|yd rfl (ptr (z01n a0 a1 a2 a3)) (TOp.box_s rfl rfl rfl)<|ye rfl (optr 0 1 0) ([z01o, o0, o0, o0, o0, o0]) (TOp.alloc_o (g := o0) 0 rfl zer30 zok30 rfl)<|ya rfl (b false)<|zN ?_
 refine yS ?_
 obtain ⟨r1, hf1, h⟩ := oS h
 refine yW<|yl rfl (agg (z01n a0 a1 a2 a3)) (yL agg30 siz30)<|ye rfl (mref 1 1) ([z01o, ⟨1, some (mpc r1)⟩, o0, o0, o0, o0]) (TOp.callBN (ls := [(mpc r1)]) [1] (CallAs.func ent83 rfl rfl) (Bors.cons (Bor.agg (bP (bS (bS (bS bN))))) bN) rfl (K0z_ok a0 a1 a2 a3 r1 hf1) (and_all (lt_mpc 0 _) rfl) (and_all (noss_mpc _) rfl) rfl (by decide) (ns_of ⟨⟨_, rfl⟩, trivial⟩))<|ye rfl (mref 2 1) ([z01o, ⟨1, some (mpc r1)⟩, ⟨1, some (mpc ([] : List (Int × Int × F)))⟩, o0, o0, o0]) (TOp.mkMap (g := o0) 2 rfl rfl)<|ya rfl (mref 1 1)<|ya rfl (mref 2 1)<|zN ?_
 refine yS<|zQ<|yl rfl (ptr (z01n a0 a1 a2 a3)) (LOp.fap und30 rfl siz2 rfl rfl rfl)<|yl rfl (i64 a0) (n2 agg2)<|ym rfl (i64 0)<|zN ?_
 obtain ⟨z20, hz_20, h⟩ := oS h
 refine RunC.cutN (fun τ Γ => ∃ (L25 : List (Int × Int × F)), WeakLe τ [(2, ptr (z01n a0 a1 a2 a3)), (4, optr 0 1 0), (7, mref 2 1)] ∧ DeadLe Γ [z01o, ⟨1, none⟩, ⟨1, some (mpc L25)⟩, o0, o0, o0] ∧ z20 = .inl L25) ?_ ?_
 ·refine RunC.block (RunC.loop (RunL.loopM (x := z20) (K1b_s19 a0 a4 r1) (fun (s : (List (Int × Int × F)) × Int) τ Γ => WeakLe τ [(1, fn (.func 117) [] (z01p a4)), (2, ptr (z01n a0 a1 a2 a3)), (4, optr 0 1 0), (6, mref 1 1), (7, mref 2 1), (20, i64 a0), (21, i64 s.2)] ∧ DeadLe Γ [z01o, ⟨1, some (mpc r1)⟩, ⟨1, some (mpc s.1)⟩, o0, o0, o0]) ?_ _ _ _ hz_20 ⟨⟨aR, aR, aR, aR, aR, aR, aR, trivial⟩, ⟨dR, dR, dR, dR, dR, dR, trivial⟩⟩))
  rintro ⟨L2, v3⟩ τ20 Γ20 y20_ ⟨hw20, hd20⟩ h20_ ho20 hr20
  refine RunC.wl (τ' := [(1, fn (.func 117) [] (z01p a4)), (2, ptr (z01n a0 a1 a2 a3)), (4, optr 0 1 0), (6, mref 1 1), (7, mref 2 1), (20, i64 a0), (21, i64 v3)]) (Γ' := [z01o, ⟨1, some (mpc r1)⟩, ⟨1, some (mpc L2)⟩, o0, o0, o0]) hw20 hd20 ?_
  replace h20_ : K1b_b19 a0 a4 r1 L2 v3 = some y20_ := h20_
  unfold K1b_b19 at h20_
  refine yS ?_
  rcases oB h20_ with ⟨hc2, h20_⟩ | ⟨hc2, h20_⟩
  ·refine yW<|yl rfl (b true) (LOp.eqb (LOp.lss rfl rfl rfl) hc2)<|zN ?_
   refine yS<|yT<|RunC.skip<|yS<|RunC.block<|zQ<|ym rfl (i64 v3)<|ya rfl (i64 v3)<|zN ?_
   refine yS ?_
   obtain ⟨x4, hx3, h20_⟩ := oL h20_
   refine yW<|ym rfl (i64 v3)<|yl rfl (i64 x4) (LOp.eqr (LOp.add rfl rfl rfl) (congrArg (ik .i64) hx3))<|ym rfl (i64 0)<|zN ?_
   obtain ⟨z21, hz_21, h20_⟩ := oS h20_
   refine RunC.cutN (fun τ Γ => ∃ (L23 : List (Int × Int × F)), WeakLe τ [(1, fn (.func 117) [] (z01p a4)), (2, ptr (z01n a0 a1 a2 a3)), (4, optr 0 1 0), (6, mref 1 1), (7, mref 2 1), (20, i64 a0), (21, i64 v3)] ∧ DeadLe Γ [z01o, ⟨1, some (mpc r1)⟩, ⟨1, some (mpc L23)⟩, o0, o0, o0] ∧ z21 = .inl L23) ?_ ?_
   ·refine RunC.block (RunC.loop (RunL.loopM (x := z21) (K1b_s18 a4 r1 v3 x4) (fun (s : (List (Int × Int × F)) × Int) τ Γ => WeakLe τ [(1, fn (.func 117) [] (z01p a4)), (2, ptr (z01n a0 a1 a2 a3)), (4, optr 0 1 0), (6, mref 1 1), (7, mref 2 1), (8, i64 v3), (20, i64 a0), (21, i64 v3), (25, i64 x4), (26, i64 s.2)] ∧ DeadLe Γ [z01o, ⟨1, some (mpc r1)⟩, ⟨1, some (mpc s.1)⟩, o0, o0, o0]) ?_ _ _ _ hz_21 ⟨⟨aR, aR, aR, aR, aR, aR, aR, aR, aR, aR, trivial⟩, ⟨dR, dR, dR, dR, dR, dR, trivial⟩⟩))
    rintro ⟨L5, v6⟩ τ21 Γ21 y21_ ⟨hw21, hd21⟩ h21_ ho21 hr21
    refine RunC.wl (τ' := [(1, fn (.func 117) [] (z01p a4)), (2, ptr (z01n a0 a1 a2 a3)), (4, optr 0 1 0), (6, mref 1 1), (7, mref 2 1), (8, i64 v3), (20, i64 a0), (21, i64 v3), (25, i64 x4), (26, i64 v6)]) (Γ' := (z01q r1 L5)) hw21 hd21 ?_
    replace h21_ : K1b_b18 a4 r1 v3 x4 L5 v6 = some y21_ := h21_
    unfold K1b_b18 at h21_
    refine yS ?_
    rcases oB h21_ with ⟨hc4, h21_⟩ | ⟨hc4, h21_⟩
    ·refine yW<|yl rfl (b true) (LOp.eqb (LOp.lss rfl rfl rfl) hc4)<|zN ?_
     refine yS<|yT<|RunC.skip<|yS<|RunC.cutN (fun τ Γ => ∃ (L21 : List (Int × Int × F)), WeakLe τ [(1, fn (.func 117) [] (z01p a4)), (2, ptr (z01n a0 a1 a2 a3)), (4, optr 0 1 0), (6, mref 1 1), (7, mref 2 1), (8, i64 v3), (20, i64 a0), (21, i64 v3), (25, i64 x4), (26, i64 v6)] ∧ DeadLe Γ [z01o, ⟨1, some (mpc r1)⟩, ⟨1, some (mpc L21)⟩, o0, o0, o0] ∧ K1b_k17 v6 L21 = some y21_) ?_ ?_
     ·refine RunC.block<|zQ<|ym rfl (i64 v6)<|ya rfl (i64 v6)<|zN ?_
      refine yS<|yS ?_
      obtain ⟨r7, hf5, h21_⟩ := oS h21_
      rcases oB h21_ with ⟨hc6, h21_⟩ | ⟨hc6, h21_⟩
      ·refine yW<|ym rfl (fn (.func 117) [] (z01p a4))<|ym rfl (i64 v3)<|ym rfl (i64 v6)<|yd rfl (b true) (TOp.eqb (TOp.callB (CallAs.fn ent117 rfl rfl rfl rfl) (bP (bP (Bors.cons (Bor.ptr (bS bN)) bN))) rfl rfl (K17_ok v3 v6 a4 r7 hf5)) hc6)<|yl rfl (b false) n1<|zN ?_
       refine yF<|RunC.skip<|yS ?_
       obtain ⟨x8, hx7, h21_⟩ := oL h21_
       refine yW<|ym rfl (mref 1 1)<|ym rfl (i64 v3)<|ym rfl (i64 v6)<|yl rfl (agg [i64 v3, i64 v6]) (LOp.build (qs := [(0, [i64 v3]), (1, [i64 v6])]) zer101 zok101 und101 plc101 rfl ⟨rfl, ⟨_, ALe.refl _, rfl⟩, ⟨rfl, ⟨_, ALe.refl _, rfl⟩, trivial⟩⟩ rfl)<|yd rfl (f32 x8) (TOp.eqr (TOp.mget und98 pky101 zer26 zel26 rfl rfl rfl rfl rfl) (congrArg f32 hx7))<|ya rfl (f32 x8)<|zN ?_
       refine yS<|zQ<|ym rfl (i64 v6)<|ym rfl (i64 0)<|zN ?_
       obtain ⟨z22, hz_22, h21_⟩ := oS h21_
       refine RunC.cutN (fun τ Γ => ∃ (y15 : F), WeakLe τ [(1, fn (.func 117) [] (z01p a4)), (2, ptr (z01n a0 a1 a2 a3)), (4, optr 0 1 0), (6, mref 1 1), (7, mref 2 1), (8, i64 v3), (9, i64 v6), (10, f32 y15), (20, i64 a0), (21, i64 v3), (25, i64 x4), (26, i64 v6)] ∧ DeadLe Γ (z01q r1 L5) ∧ z22 = .inl y15) ?_ ?_
       ·refine RunC.block (RunC.loop (RunL.loopM (x := z22) (K1b_s16 v3 L5 v6) (fun (s : F × Int) τ Γ => WeakLe τ [(1, fn (.func 117) [] (z01p a4)), (2, ptr (z01n a0 a1 a2 a3)), (4, optr 0 1 0), (6, mref 1 1), (7, mref 2 1), (8, i64 v3), (9, i64 v6), (10, f32 s.1), (20, i64 a0), (21, i64 v3), (25, i64 x4), (26, i64 v6), (39, i64 v6), (40, i64 s.2)] ∧ DeadLe Γ (z01q r1 L5)) ?_ _ _ _ hz_22 ⟨⟨aR, aR, aR, aR, aR, aR, aR, aR, aR, aR, aR, aR, aR, aR, trivial⟩, ⟨dR, dR, dR, dR, dR, dR, trivial⟩⟩))
        rintro ⟨y9, v10⟩ τ22 Γ22 y22_ ⟨hw22, hd22⟩ h22_ ho22 hr22
        refine RunC.wl (τ' := [(1, fn (.func 117) [] (z01p a4)), (2, ptr (z01n a0 a1 a2 a3)), (4, optr 0 1 0), (6, mref 1 1), (7, mref 2 1), (8, i64 v3), (9, i64 v6), (10, f32 y9), (20, i64 a0), (21, i64 v3), (25, i64 x4), (26, i64 v6), (39, i64 v6), (40, i64 v10)]) (Γ' := (z01q r1 L5)) hw22 hd22 ?_
        replace h22_ : K1b_b16 v3 L5 v6 y9 v10 = some y22_ := h22_
        unfold K1b_b16 at h22_
        refine yS ?_
        rcases oB h22_ with ⟨hc8, h22_⟩ | ⟨hc8, h22_⟩
        ·refine yW<|yl rfl (b true) (LOp.eqb (LOp.lss rfl rfl rfl) hc8)<|zN ?_
         refine yS<|yT<|RunC.skip<|yS<|RunC.cutN (fun τ Γ => ∃ (y13 : F), WeakLe τ [(1, fn (.func 117) [] (z01p a4)), (2, ptr (z01n a0 a1 a2 a3)), (4, optr 0 1 0), (6, mref 1 1), (7, mref 2 1), (8, i64 v3), (9, i64 v6), (10, f32 y13), (20, i64 a0), (21, i64 v3), (25, i64 x4), (26, i64 v6), (39, i64 v6), (40, i64 v10)] ∧ DeadLe Γ (z01q r1 L5) ∧ K1b_k15 v10 y13 = some y22_) ?_ ?_
         ·refine RunC.block<|zQ<|ym rfl (i64 v10)<|ya rfl (i64 v10)<|zN ?_
          refine yS ?_
          rcases oB h22_ with ⟨hc9, h22_⟩ | ⟨hc9, h22_⟩
          ·refine yW<|ym rfl (mref 2 1)<|ym rfl (i64 v3)<|ym rfl (i64 v10)<|yl rfl (agg [i64 v3, i64 v10]) (LOp.build (qs := [(0, [i64 v3]), (1, [i64 v10])]) zer101 zok101 und101 plc101 rfl ⟨rfl, ⟨_, ALe.refl _, rfl⟩, ⟨rfl, ⟨_, ALe.refl _, rfl⟩, trivial⟩⟩ rfl)<|yd rfl (z01u L5 v3 v10) (TOp.mgetok und98 pky101 zer26 zel26 rfl rfl rfl rfl rfl rfl)<|ym rfl (z01u L5 v3 v10)<|yl rfl (f32 ((mget L5 v3 v10).getD (some 0))) n3<|yl rfl (b true) (LOp.eqb n3 hc9)<|ya rfl (f32 ((mget L5 v3 v10).getD (some 0)))<|ya rfl (b true)<|zN ?_
           refine yS ?_
           rcases oB h22_ with ⟨hc10, h22_⟩ | ⟨hc10, h22_⟩
           ·refine yW<|ym rfl (mref 2 1)<|ym rfl (i64 v6)<|ym rfl (i64 v10)<|yl rfl (agg [i64 v6, i64 v10]) (LOp.build (qs := [(0, [i64 v6]), (1, [i64 v10])]) zer101 zok101 und101 plc101 rfl ⟨rfl, ⟨_, ALe.refl _, rfl⟩, ⟨rfl, ⟨_, ALe.refl _, rfl⟩, trivial⟩⟩ rfl)<|yd rfl (z01r L5 v6 v10) (TOp.mgetok und98 pky101 zer26 zel26 rfl rfl rfl rfl rfl rfl)<|ym rfl (z01r L5 v6 v10)<|yl rfl (z01t L5 v6 v10) n3<|yl rfl (b true) (LOp.eqb n3 hc10)<|ya rfl (z01t L5 v6 v10)<|ya rfl (b true)<|zN ?_
            refine RunC.wl (τ' := [(1, fn (.func 117) [] (z01p a4)), (2, ptr (z01n a0 a1 a2 a3)), (4, optr 0 1 0), (6, mref 1 1), (7, mref 2 1), (8, i64 v3), (9, i64 v6), (10, f32 y9), (12, f32 ((mget L5 v3 v10).getD (some 0))), (13, b true), (14, f32 ((mget L5 v6 v10).getD (some 0))), (15, b true), (20, i64 a0), (21, i64 v3), (25, i64 x4), (26, i64 v6), (39, i64 v6), (40, i64 v10)]) (Γ' := (z01q r1 L5)) ⟨aR, aR, aR, aR, aR, aR, aR, aR, aR, aR, aR, aR, aR, aR, aR, aR, aR, aR, trivial⟩ ⟨dR, dR, dR, dR, dR, dR, trivial⟩<|zQ<|ym rfl (b true)<|ym rfl (b true)<|ym rfl (b true)<|yl rfl (b true) yq<|zN ?_
            refine yT ?_
            obtain ⟨r11, hf11, h22_⟩ := oS h22_
            obtain ⟨x12, hx12, h22_⟩ := oL h22_
            refine yW<|ym rfl (f32 y9)<|ym rfl (f32 ((mget L5 v3 v10).getD (some 0)))<|ym rfl (z01t L5 v6 v10)<|yd rfl (f32 r11) (yc ent86 rfl rfl (bP bN0) (K18_ok ((mget L5 v3 v10).getD (some 0)) ((mget L5 v6 v10).getD (some 0)) r11 hf11))<|yd rfl (f32 x12) (TOp.eqr (TOp.fop (.inr (.inl rfl)) rfl (OpF.tmp rfl) (OpF.tmp rfl)) (congrArg (f .f32) hx12))<|ya rfl (f32 x12)<|zN ?_
            exact ⟨x12, ⟨aR, aR, aR, aR, aR, aR, aR, aR, aR, aR, aR, aR, aR, aR, trivial⟩, ⟨dR, dR, dR, dR, dR, dR, trivial⟩, h22_⟩
           ·refine yW<|ym rfl (mref 2 1)<|ym rfl (i64 v6)<|ym rfl (i64 v10)<|yl rfl (agg [i64 v6, i64 v10]) (LOp.build (qs := [(0, [i64 v6]), (1, [i64 v10])]) zer101 zok101 und101 plc101 rfl ⟨rfl, ⟨_, ALe.refl _, rfl⟩, ⟨rfl, ⟨_, ALe.refl _, rfl⟩, trivial⟩⟩ rfl)<|yd rfl (z01r L5 v6 v10) (TOp.mgetok und98 pky101 zer26 zel26 rfl rfl rfl rfl rfl rfl)<|ym rfl (z01r L5 v6 v10)<|yl rfl (z01t L5 v6 v10) n3<|yl rfl (b false) (LOp.eqb n3 hc10)<|ya rfl (z01t L5 v6 v10)<|ya rfl (b false)<|zN ?_
            refine RunC.wl (τ' := [(1, fn (.func 117) [] (z01p a4)), (2, ptr (z01n a0 a1 a2 a3)), (4, optr 0 1 0), (6, mref 1 1), (7, mref 2 1), (8, i64 v3), (9, i64 v6), (10, f32 y9), (12, f32 ((mget L5 v3 v10).getD (some 0))), (13, b true), (14, f32 ((mget L5 v6 v10).getD (some 0))), (15, b false), (20, i64 a0), (21, i64 v3), (25, i64 x4), (26, i64 v6), (39, i64 v6), (40, i64 v10)]) (Γ' := (z01q r1 L5)) ⟨aR, aR, aR, aR, aR, aR, aR, aR, aR, aR, aR, aR, aR, aR, aR, aR, aR, aR, trivial⟩ ⟨dR, dR, dR, dR, dR, dR, trivial⟩<|zQ<|ym rfl (b true)<|ym rfl (b true)<|ym rfl (b false)<|yl rfl (b false) yq<|zN ?_
            refine yF<|RunC.skip ?_
            exact ⟨y9, ⟨aR, aR, aR, aR, aR, aR, aR, aR, aR, aR, aR, aR, aR, aR, trivial⟩, ⟨dR, dR, dR, dR, dR, dR, trivial⟩, h22_⟩
          ·refine yW<|ym rfl (mref 2 1)<|ym rfl (i64 v3)<|ym rfl (i64 v10)<|yl rfl (agg [i64 v3, i64 v10]) (LOp.build (qs := [(0, [i64 v3]), (1, [i64 v10])]) zer101 zok101 und101 plc101 rfl ⟨rfl, ⟨_, ALe.refl _, rfl⟩, ⟨rfl, ⟨_, ALe.refl _, rfl⟩, trivial⟩⟩ rfl)<|yd rfl (z01u L5 v3 v10) (TOp.mgetok und98 pky101 zer26 zel26 rfl rfl rfl rfl rfl rfl)<|ym rfl (z01u L5 v3 v10)<|yl rfl (f32 ((mget L5 v3 v10).getD (some 0))) n3<|yl rfl (b false) (LOp.eqb n3 hc9)<|ya rfl (f32 ((mget L5 v3 v10).getD (some 0)))<|ya rfl (b false)<|zN ?_
           refine yS ?_
           rcases oB h22_ with ⟨hc13, h22_⟩ | ⟨hc13, h22_⟩
           ·refine yW<|ym rfl (mref 2 1)<|ym rfl (i64 v6)<|ym rfl (i64 v10)<|yl rfl (agg [i64 v6, i64 v10]) (LOp.build (qs := [(0, [i64 v6]), (1, [i64 v10])]) zer101 zok101 und101 plc101 rfl ⟨rfl, ⟨_, ALe.refl _, rfl⟩, ⟨rfl, ⟨_, ALe.refl _, rfl⟩, trivial⟩⟩ rfl)<|yd rfl (z01r L5 v6 v10) (TOp.mgetok und98 pky101 zer26 zel26 rfl rfl rfl rfl rfl rfl)<|ym rfl (z01r L5 v6 v10)<|yl rfl (z01t L5 v6 v10) n3<|yl rfl (b true) (LOp.eqb n3 hc13)<|ya rfl (z01t L5 v6 v10)<|ya rfl (b true)<|zN ?_
            refine RunC.wl (τ' := [(1, fn (.func 117) [] (z01p a4)), (2, ptr (z01n a0 a1 a2 a3)), (4, optr 0 1 0), (6, mref 1 1), (7, mref 2 1), (8, i64 v3), (9, i64 v6), (10, f32 y9), (12, f32 ((mget L5 v3 v10).getD (some 0))), (13, b false), (14, f32 ((mget L5 v6 v10).getD (some 0))), (15, b true), (20, i64 a0), (21, i64 v3), (25, i64 x4), (26, i64 v6), (39, i64 v6), (40, i64 v10)]) (Γ' := (z01q r1 L5)) ⟨aR, aR, aR, aR, aR, aR, aR, aR, aR, aR, aR, aR, aR, aR, aR, aR, aR, aR, trivial⟩ ⟨dR, dR, dR, dR, dR, dR, trivial⟩<|zQ<|ym rfl (b false)<|ym rfl (b false)<|yR rfl<|yl rfl (b false) yp<|zN ?_
            refine yF<|RunC.skip ?_
            exact ⟨y9, ⟨aR, aR, aR, aR, aR, aR, aR, aR, aR, aR, aR, aR, aR, aR, trivial⟩, ⟨dR, dR, dR, dR, dR, dR, trivial⟩, h22_⟩
           ·refine yW<|ym rfl (mref 2 1)<|ym rfl (i64 v6)<|ym rfl (i64 v10)<|yl rfl (agg [i64 v6, i64 v10]) (LOp.build (qs := [(0, [i64 v6]), (1, [i64 v10])]) zer101 zok101 und101 plc101 rfl ⟨rfl, ⟨_, ALe.refl _, rfl⟩, ⟨rfl, ⟨_, ALe.refl _, rfl⟩, trivial⟩⟩ rfl)<|yd rfl (z01r L5 v6 v10) (TOp.mgetok und98 pky101 zer26 zel26 rfl rfl rfl rfl rfl rfl)<|ym rfl (z01r L5 v6 v10)<|yl rfl (z01t L5 v6 v10) n3<|yl rfl (b false) (LOp.eqb n3 hc13)<|ya rfl (z01t L5 v6 v10)<|ya rfl (b false)<|zN ?_
            refine RunC.wl (τ' := [(1, fn (.func 117) [] (z01p a4)), (2, ptr (z01n a0 a1 a2 a3)), (4, optr 0 1 0), (6, mref 1 1), (7, mref 2 1), (8, i64 v3), (9, i64 v6), (10, f32 y9), (12, f32 ((mget L5 v3 v10).getD (some 0))), (13, b false), (14, f32 ((mget L5 v6 v10).getD (some 0))), (15, b false), (20, i64 a0), (21, i64 v3), (25, i64 x4), (26, i64 v6), (39, i64 v6), (40, i64 v10)]) (Γ' := (z01q r1 L5)) ⟨aR, aR, aR, aR, aR, aR, aR, aR, aR, aR, aR, aR, aR, aR, aR, aR, aR, aR, trivial⟩ ⟨dR, dR, dR, dR, dR, dR, trivial⟩<|zQ<|ym rfl (b false)<|ym rfl (b false)<|yR rfl<|yl rfl (b false) yp<|zN ?_
            refine yF<|RunC.skip ?_
            exact ⟨y9, ⟨aR, aR, aR, aR, aR, aR, aR, aR, aR, aR, aR, aR, aR, aR, trivial⟩, ⟨dR, dR, dR, dR, dR, dR, trivial⟩, h22_⟩
         ·rintro τ23 Γ23 ⟨y13, hw23, hd23, h22_⟩
          refine RunC.wl hw23 hd23 ?_
          unfold K1b_k15 at h22_
          obtain ⟨x14, hx14, h22_⟩ := oL h22_
          refine yW<|yl rfl (i64 x14) (LOp.eqr (LOp.add rfl rfl rfl) (congrArg (ik .i64) hx14))<|ym rfl (i64 x14)<|zN ?_
          cases oI h22_
          exact ⟨_, rfl, ⟨aR, aR, aR, aR, aR, aR, aR, aR, aR, aR, aR, aR, aR, aR, trivial⟩, ⟨dR, dR, dR, dR, dR, dR, trivial⟩⟩
        ·refine yW<|yl rfl (b false) (LOp.eqb (LOp.lss rfl rfl rfl) hc8)<|zN ?_
         refine yS<|yF<|RunC.exit ?_
         cases oI h22_
         have hx := ho22 _ rfl
         exact ⟨y9, ⟨aR, aR, aR, aR, aR, aR, aR, aR, aR, aR, aR, aR, trivial⟩, ⟨dR, dR, dR, dR, dR, dR, trivial⟩, hx⟩
       ·rintro τ24 Γ24 ⟨y15, hw24, hd24, rfl⟩
        refine RunC.wl hw24 hd24 ?_
        replace h21_ : K1b_k16 v3 L5 v6 y15 = some y21_ := h21_
        unfold K1b_k16 at h21_
        refine RunC.block<|yS ?_
        rcases oB h21_ with ⟨hc15, h21_⟩ | ⟨hc15, h21_⟩
        ·refine yW<|ym rfl (i64 v6)<|ym rfl (i64 v3)<|yl rfl (b true) (LOp.eqb (LOp.lss rfl rfl rfl) hc15)<|ya rfl (b true)<|zN ?_
         refine yT ?_
         obtain ⟨x16, hx16, h21_⟩ := oL h21_
         obtain ⟨x17, hx17, h21_⟩ := oL h21_
         obtain ⟨L18, hx18, h21_⟩ := oL h21_
         refine yW<|ym rfl (mref 2 1)<|ym rfl (i64 v3)<|ym rfl (i64 v6)<|yl rfl (agg [i64 v3, i64 v6]) (LOp.build (qs := [(0, [i64 v3]), (1, [i64 v6])]) zer101 zok101 und101 plc101 rfl ⟨rfl, ⟨_, ALe.refl _, rfl⟩, ⟨rfl, ⟨_, ALe.refl _, rfl⟩, trivial⟩⟩ rfl)<|ym rfl (f32 y15)<|ym rfl (mref 2 1)<|ym rfl (i64 v6)<|ym rfl (i64 v6)<|yl rfl (agg [i64 v6, i64 v6]) (LOp.build (qs := [(0, [i64 v6]), (1, [i64 v6])]) zer101 zok101 und101 plc101 rfl ⟨rfl, ⟨_, ALe.refl _, rfl⟩, ⟨rfl, ⟨_, ALe.refl _, rfl⟩, trivial⟩⟩ rfl)<|yd rfl (f32 x16) (TOp.eqr (TOp.mget und98 pky101 zer26 zel26 rfl rfl rfl rfl rfl) (congrArg f32 hx16))<|yd rfl (f32 x17) (TOp.eqr (TOp.fop (.inr (.inr (.inr rfl))) rfl (OpF.tmp rfl) (OpF.tmp rfl)) (congrArg (f .f32) hx17))<|ROps.mput (L' := L18) (Γ' := [z01o, ⟨1, some (mpc r1)⟩, ⟨1, some (mpc L18)⟩, o0, o0, o0]) rfl und98 pky101 rfl rfl rfl rfl aR rfl hx18 rfl<|zN ?_
         exact ⟨L18, ⟨aR, aR, aR, aR, aR, aR, aR, aR, aR, aR, trivial⟩, ⟨dR, dR, dR, dR, dR, dR, trivial⟩, h21_⟩
        ·refine yW<|ym rfl (i64 v6)<|ym rfl (i64 v3)<|yl rfl (b false) (LOp.eqb (LOp.lss rfl rfl rfl) hc15)<|ya rfl (b false)<|zN ?_
         refine yF<|yS ?_
         rcases oB h21_ with ⟨hc19, h21_⟩ | ⟨hc19, h21_⟩
         ·refine yW<|ym rfl (f32 y15)<|yl rfl (b true) (LOp.eqb (LOp.fgt rfl (OpF.tmp rfl) (OpF.const rfl (by kernel_rfl) (by kernel_rfl))) hc19)<|ya rfl (b true)<|zN ?_
          refine yT ?_
          obtain ⟨r19, hf20, h21_⟩ := oS h21_
          obtain ⟨L20, hx21, h21_⟩ := oL h21_
          refine yW<|ym rfl (mref 2 1)<|ym rfl (i64 v3)<|ym rfl (i64 v6)<|yl rfl (agg [i64 v3, i64 v6]) (LOp.build (qs := [(0, [i64 v3]), (1, [i64 v6])]) zer101 zok101 und101 plc101 rfl ⟨rfl, ⟨_, ALe.refl _, rfl⟩, ⟨rfl, ⟨_, ALe.refl _, rfl⟩, trivial⟩⟩ rfl)<|ym rfl (f32 y15)<|yd rfl (f32 r19) (yc ent154 rfl rfl bN0 (K1a_ok y15 r19 hf20))<|ROps.mput (L' := L20) (Γ' := [z01o, ⟨1, some (mpc r1)⟩, ⟨1, some (mpc L20)⟩, o0, o0, o0]) rfl und98 pky101 rfl rfl rfl rfl aR rfl hx21 rfl<|zN ?_
          exact ⟨L20, ⟨aR, aR, aR, aR, aR, aR, aR, aR, aR, aR, trivial⟩, ⟨dR, dR, dR, dR, dR, dR, trivial⟩, h21_⟩
         ·refine yW<|ym rfl (f32 y15)<|yl rfl (b false) (LOp.eqb (LOp.fgt rfl (OpF.tmp rfl) (OpF.const rfl (by kernel_rfl) (by kernel_rfl))) hc19)<|ya rfl (b false)<|zN ?_
          refine yF<|zQ<|yl rfl (agg [i64 0, nilsl, nilsl, nilsl]) (LOp.build (qs := []) zer30 zok30 und30 plc30 rfl trivial rfl)<|ys (agg [i64 0, nilsl, nilsl, nilsl]) [i64 0, nilsl, nilsl, nilsl] ((z01q r1 L5)) siz30<|ya rfl (b false)<|zN ?_
          refine RunC.nil_cell (l' := [i64 0, oref 3 1 0 0, nilsl, nilsl]) (Γ' := [⟨1, some [i64 0, oref 3 1 0 0, nilsl, nilsl]⟩, ⟨1, some (mpc r1)⟩, ⟨1, some (mpc L5)⟩, oJ 1 [], o0, o0]) 0 1 3 rfl rfl rfl rfl rfl<|RunC.nil_cell (l' := [i64 0, oref 3 1 0 0, oref 4 1 0 0, nilsl]) (Γ' := [⟨1, some [i64 0, oref 3 1 0 0, oref 4 1 0 0, nilsl]⟩, ⟨1, some (mpc r1)⟩, ⟨1, some (mpc L5)⟩, oJ 1 [], oJ 1 [], o0]) 0 2 4 rfl rfl rfl rfl rfl<|RunC.nil_cell (l' := [i64 0, oref 3 1 0 0, oref 4 1 0 0, oref 5 1 0 0]) (Γ' := [⟨1, some [i64 0, oref 3 1 0 0, oref 4 1 0 0, oref 5 1 0 0]⟩, ⟨1, some (mpc r1)⟩, ⟨1, some (mpc L5)⟩, oJ 1 [], oJ 1 [], oF 1 []]) 0 3 5 rfl rfl rfl rfl rfl<|RunC.ret ?_
          cases oI h21_
          have hx25_ := hr21 _ rfl
          subst hx25_
          cases oI h20_
          have hx26_ := hr20 _ rfl
          subst hx26_
          have hq := oI h
          obtain ⟨hq0, hq⟩ := Prod.mk.inj hq
          obtain ⟨hq1, hq⟩ := Prod.mk.inj hq
          obtain ⟨hq2, hq⟩ := Prod.mk.inj hq
          obtain ⟨hq3, hq⟩ := Prod.mk.inj hq
          subst q0
          subst q1
          subst q2
          subst q3
          subst q4
          exact yB (tup [agg [i64 0, oref 3 1 0 (([] : List Int).length), oref 4 1 0 (([] : List Int).length), oref 5 1 0 (([] : List F).length)], b false]) [(3, 1), (4, 1), (5, 1)] (Res.eq (Res.two rfl (RV.cell agg30 siz30 rfl rfl rfl rfl) (RV.tmp rfl)) (by first | rfl | (rw [(show ([] : List Int).length = 0 from rfl), (show ([] : List F).length = 0 from rfl)] <;> rfl))) (SelL.arr0 (f := i64) (fun _ => rfl) rfl (SelL.arr0 (f := i64) (fun _ => rfl) rfl (sA rfl trivial)))
      ·refine yW<|ym rfl (fn (.func 117) [] (z01p a4))<|ym rfl (i64 v3)<|ym rfl (i64 v6)<|yd rfl (b false) (TOp.eqb (TOp.callB (CallAs.fn ent117 rfl rfl rfl rfl) (bP (bP (Bors.cons (Bor.ptr (bS bN)) bN))) rfl rfl (K17_ok v3 v6 a4 r7 hf5)) hc6)<|yl rfl (b true) n0<|zN ?_
       refine yT<|RunC.exit ?_
       exact ⟨L5, ⟨aR, aR, aR, aR, aR, aR, aR, aR, aR, aR, trivial⟩, ⟨dR, dR, dR, dR, dR, dR, trivial⟩, h21_⟩
     ·rintro τ27 Γ27 ⟨L21, hw27, hd27, h21_⟩
      refine RunC.wl hw27 hd27 ?_
      unfold K1b_k17 at h21_
      obtain ⟨x22, hx22, h21_⟩ := oL h21_
      refine yW<|yl rfl (i64 x22) (LOp.eqr (LOp.add rfl rfl rfl) (congrArg (ik .i64) hx22))<|ym rfl (i64 x22)<|zN ?_
      cases oI h21_
      exact ⟨_, rfl, ⟨aR, aR, aR, aR, aR, aR, aR, aR, aR, aR, trivial⟩, ⟨dR, dR, dR, dR, dR, dR, trivial⟩⟩
    ·refine yW<|yl rfl (b false) (LOp.eqb (LOp.lss rfl rfl rfl) hc4)<|zN ?_
     refine yS<|yF<|RunC.exit ?_
     cases oI h21_
     have hx := ho21 _ rfl
     exact ⟨L5, ⟨aR, aR, aR, aR, aR, aR, aR, trivial⟩, ⟨dR, dR, dR, dR, dR, dR, trivial⟩, hx⟩
   ·rintro τ28 Γ28 ⟨L23, hw28, hd28, rfl⟩
    refine RunC.wl hw28 hd28 ?_
    replace h20_ : K1b_k18 v3 L23 = some y20_ := h20_
    unfold K1b_k18 at h20_
    obtain ⟨x24, hx23, h20_⟩ := oL h20_
    refine yW<|yl rfl (i64 x24) (LOp.eqr (LOp.add rfl rfl rfl) (congrArg (ik .i64) hx23))<|ym rfl (i64 x24)<|zN ?_
    cases oI h20_
    exact ⟨_, rfl, ⟨aR, aR, aR, aR, aR, aR, aR, trivial⟩, ⟨dR, dR, dR, dR, dR, dR, trivial⟩⟩
  ·refine yW<|yl rfl (b false) (LOp.eqb (LOp.lss rfl rfl rfl) hc2)<|zN ?_
   refine yS<|yF<|RunC.exit ?_
   cases oI h20_
   have hx := ho20 _ rfl
   exact ⟨L2, ⟨aR, aR, aR, trivial⟩, ⟨dR, dL, dR, dR, dR, dR, trivial⟩, hx⟩
 ·rintro τ29 Γ29 ⟨L25, hw29, hd29, rfl⟩
  refine RunC.wl hw29 hd29 ?_
  replace h : K1b_k19 a0 L25 = some (q0, q1, q2, q3, q4) := h
  unfold K1b_k19 at h
  refine yS ?_
  obtain ⟨r26, r27, r28, r29, r30, r31, hf24, h⟩ := obind6_some h
  refine yW<|yl rfl (ptr (z01n a0 a1 a2 a3)) (LOp.fap und30 rfl siz2 rfl rfl rfl)<|yl rfl (i64 a0) (n2 agg2)<|ym rfl (mref 2 1)<|ROps.callO (A := [i64 a0, mref 2 1]) (args := [i64 a0, mref 0 0]) (Γc := [⟨0, some (mpc L25)⟩]) (Γc' := [⟨0, some (mpc r28)⟩, oJ 0 r29, oJ 0 r30, oF 0 r31]) (r' := tup [agg (z01s r26 r29 r30 r31), b r27]) (Γ' := [z01o, oJ 2 r29, ⟨1, some (mpc r28)⟩, oJ 1 r30, oF 1 r31, o0]) [(2, 1)] [(1, 2), (3, 1), (4, 1)] rfl (CallAs.func ent100 rfl rfl) rfl rfl (SelOk.of (show List.Nodup [2] from by decide) (SelL.map0 rfl trivial)) (live_of ⟨⟨_, _, rfl⟩, trivial⟩) (by simp [ren, rens, sigma, rens_f32, rens_f64, rens_i64, rens_ik, rens_str, rens_cp, rens_mpc]) rfl (K10_ok a0 L25 r26 r27 r28 r29 r30 r31 hf24) rfl (news_of ⟨⟨_, rfl, rfl⟩, ⟨_, rfl, rfl⟩, ⟨_, rfl, rfl⟩, trivial⟩) (show List.Nodup [2, 1, 3, 4] from by decide) (by simp [ren, rens, sigma]) (by simp [backOb, sigma, ren, rens, rens_f32, rens_f64, rens_i64, rens_ik, rens_str, rens_cp, rens_mpc] <;> omega)<|yl rfl (agg (z01s r26 r29 r30 r31)) n3<|yl rfl (b r27) n3<|ys (agg (z01s r26 r29 r30 r31)) (z01s r26 r29 r30 r31) ([⟨1, some (z01s r26 r29 r30 r31)⟩, oJ 2 r29, ⟨1, some (mpc r28)⟩, oJ 1 r30, oF 1 r31, o0]) siz30<|ya rfl (b r27)<|zN ?_
  refine RunC.ret ?_
  have hq := oI h
  obtain ⟨hq0, hq⟩ := Prod.mk.inj hq
  obtain ⟨hq1, hq⟩ := Prod.mk.inj hq
  obtain ⟨hq2, hq⟩ := Prod.mk.inj hq
  obtain ⟨hq3, hq⟩ := Prod.mk.inj hq
  subst q0
  subst q1
  subst q2
  subst q3
  subst q4
  exact yB (tup [agg (z01s r26 r29 r30 r31), b r27]) [(1, 2), (3, 1), (4, 1)] (Res.two rfl (RV.cell agg30 siz30 rfl rfl rfl rfl) (RV.tmp rfl)) (SelL.arr0 (f := i64) (fun _ => rfl) rfl (SelL.arr0 (f := i64) (fun _ => rfl) rfl (sA rfl trivial)))

def K1c (a0 : Int) (a1 : List Int) (a2 : List Int) (a3 : List F) : Option (Int × Bool × (List Int) × (List Int) × (List F)) :=
 obind (K0w a0 a1 a2 a3) fun (r1 : Bool) =>
 bsel r1 (
  obind4 (K11 a0 a1 a2 a3) fun (r2 : Int) (r3 : List Int) (r4 : List Int) (r5 : List F) =>
  obind (K12 r2 r3 r4 r5) fun (r6 : List Int) =>
  obind2 (K16 r6) fun (r7 : List Int) (r8 : List Int) =>
  need (decide (r7.length = r6.length)) <|
  obind5 (K1b a0 a1 a2 a3 r8) fun (r9 : Int) (r10 : Bool) (r11 : List Int) (r12 : List Int) (r13 : List F) =>
  some (r9, r10, r11, r12, r13)) (
  some (0, false, ([] : List Int), ([] : List Int), ([] : List F)))
abbrev z01v : Ob := ⟨1, some [i64 0, nilsl, nilsl, nilsl]⟩
abbrev z01w (a0 : Int) (a1 : List Int) (a2 : List Int) (a3 : List F) : List AV := [i64 a0, sl a1.length (a1.map i64), sl a2.length (a2.map i64), (sFc a3)]
abbrev z01x (r9 : Int) (r11 : List Int) (r12 : List Int) (r13 : List F) : List AV := [i64 r9, oref 1 2 0 r11.length, oref 2 2 0 r12.length, oref 3 2 0 r13.length]
abbrev z01y (r8 : List Int) : Ob := ⟨1, some (r8.map (ik .u64))⟩
theorem K1c_ok (a0 : Int) (a1 : List Int) (a2 : List Int) (a3 : List F) (q0 : Int) (q1 : Bool) (q2 : List Int) (q3 : List Int) (q4 : List F) (h : K1c a0 a1 a2 a3 = some (q0, q1, q2, q3, q4)) : Ev Try.prog 41 [agg [i64 a0, sl a1.length (a1.map i64), sl a2.length (a2.map i64), (sFc a3)]] [] (tup [agg [i64 q0, oref 0 0 0 q2.length, oref 1 0 0 q3.length, oref 2 0 0 q4.length], b q1]) [oJ 0 q2, oJ 0 q3, oF 0 q4] := by
 refine yE Try.func41 7 37 0 ([(0, agg (z01w a0 a1 a2 a3))]) [o0, o0, o0, o0, o0, o0, o0] rfl ?_
 unfold K1c at h
 refine zQ<|yd rfl (ptr (z01w a0 a1 a2 a3)) (TOp.box_s rfl rfl rfl)<|ye rfl (optr 0 1 0) ([z01v, o0, o0, o0, o0, o0, o0]) (TOp.alloc_o (g := o0) 0 rfl zer30 zok30 rfl)<|ya rfl (b false)<|zN ?_
 refine yS<|yS ?_
 obtain ⟨r1, hf1, h⟩ := oS h
 rcases oB h with ⟨hc2, h⟩ | ⟨hc2, h⟩
 ·refine yW<|yl rfl (agg (z01w a0 a1 a2 a3)) (yL agg30 siz30)<|yd rfl (b true) (TOp.eqb (TOp.callB (CallAs.func ent30 rfl rfl) (Bors.cons (Bor.agg (bP (bS (bS (bS bN))))) bN) rfl rfl (K0w_ok a0 a1 a2 a3 r1 hf1)) hc2)<|yl rfl (b false) n1<|zN ?_
  refine yF<|RunC.skip<|yS ?_
  obtain ⟨r2, r3, r4, r5, hf3, h⟩ := obind4_some h
  obtain ⟨r6, hf4, h⟩ := oS h
  obtain ⟨r7, r8, hf5, h⟩ := obind2_some h
  obtain ⟨hn6, h⟩ := need_some h
  refine yW<|yl rfl (agg (z01w a0 a1 a2 a3)) (yL agg30 siz30)<|ye rfl (agg [i64 r2, oref 1 1 0 r3.length, oref 2 1 0 r4.length, oref 3 1 0 r5.length]) ([z01v, oJ 1 r3, oJ 1 r4, oF 1 r5, o0, o0, o0]) (TOp.callBN (ls := [(r3.map i64), (r4.map i64), (r5.map f32)]) [1, 2, 3] (CallAs.func ent113 rfl rfl) (Bors.cons (Bor.agg (bP (bS (bS (bS bN))))) bN) rfl (K11_ok a0 a1 a2 a3 r2 r3 r4 r5 hf3) (and_all (lts0_map (f := i64) (fun _ => rfl) _) (and_all (lts0_map (f := i64) (fun _ => rfl) _) (and_all (lts0_map (f := f32) (fun _ => rfl) _) rfl))) (and_all (noss_map (f := i64) (fun _ => rfl) _) (and_all (noss_map (f := i64) (fun _ => rfl) _) (and_all (noss_map (f := f32) (fun _ => rfl) _) rfl))) rfl (by decide) (ns_of ⟨⟨_, rfl⟩, ⟨_, rfl⟩, ⟨_, rfl⟩, trivial⟩))<|ye rfl (oref 4 1 0 r6.length) ([z01v, oJ 1 r3, oJ 1 r4, oF 1 r5, ⟨1, some (r6.map (ik .u64))⟩, o0, o0]) (TOp.callBN (ls := [(r6.map (ik .u64))]) [4] (CallAs.func ent114 rfl rfl) (Bors.cons (Bor.agg (bP (Bors.cons (Bor.own (f := i64) (fun _ => rfl) rfl rfl) (Bors.cons (Bor.own (f := i64) (fun _ => rfl) rfl rfl) (Bors.cons (Bor.own (f := f32) (fun _ => rfl) rfl rfl) bN))))) bN) rfl (K12_ok r2 r3 r4 r5 r6 hf4) (and_all (lts0_map (f := (ik .u64)) (fun _ => rfl) _) rfl) (and_all (noss_map (f := (ik .u64)) (fun _ => rfl) _) rfl) rfl (by decide) (ns_of ⟨⟨_, rfl⟩, trivial⟩))<|ROps.callO (A := [oref 4 1 0 r6.length]) (args := [oref 0 0 0 r6.length]) (Γc := [⟨0, some (r6.map (ik .u64))⟩]) (Γc' := [⟨0, some (r7.map (ik .u64))⟩, ⟨0, some (r8.map (ik .u64))⟩]) (r' := oref 5 1 0 r8.length) (Γ' := [z01v, oJ 1 r3, oJ 1 r4, oF 1 r5, ⟨1, some (r7.map (ik .u64))⟩, (z01y r8), o0]) [(4, 1)] [(5, 1)] rfl (CallAs.func ent115 rfl rfl) rfl rfl (SelOk.of (show List.Nodup [4] from by decide) (SelL.arr0 (f := (ik .u64)) (fun _ => rfl) rfl trivial)) (live_of ⟨⟨_, _, rfl⟩, trivial⟩) (by simp [ren, rens, sigma, rens_f32, rens_f64, rens_i64, rens_ik, rens_str, rens_cp]) rfl (K16_ok r6 r7 r8 hf5) rfl (news_of ⟨⟨_, rfl, rfl⟩, trivial⟩) (show List.Nodup [4, 5] from by decide) (by simp [ren, rens, sigma, of_decide_eq_true hn6]) (by simp [backOb, sigma, ren, rens, rens_f32, rens_f64, rens_i64, rens_ik, rens_str, rens_cp] <;> omega)<|ye rfl (optr 6 1 0) ([z01v, oJ 1 r3, oJ 1 r4, oF 1 r5, ⟨1, some (r7.map (ik .u64))⟩, (z01y r8), ⟨1, some [nilsl]⟩]) (TOp.alloc_o (g := o0) 6 rfl zer123 zok123 rfl)<|ys (oref 5 1 0 r8.length) [oref 5 1 0 r8.length] ([z01v, oJ 1 r3, oJ 1 r4, oF 1 r5, ⟨1, some (r7.map (ik .u64))⟩, (z01y r8), ⟨1, some [oref 5 1 0 r8.length]⟩]) siz123<|zN ?_
  refine RunC.wl (τ' := [(1, ptr (z01w a0 a1 a2 a3)), (2, optr 0 1 0), (4, optr 6 1 0)]) (Γ' := [z01v, ⟨1, none⟩, ⟨1, none⟩, ⟨1, none⟩, ⟨1, none⟩, (z01y r8), ⟨1, some [oref 5 1 0 r8.length]⟩]) ⟨aR, aR, aR, trivial⟩ ⟨dR, dL, dL, dL, dL, dR, dR, trivial⟩<|yS ?_
  obtain ⟨r9, r10, r11, r12, r13, hf7, h⟩ := obind5_some h
  refine yW<|yl rfl (agg (z01w a0 a1 a2 a3)) (yL agg30 siz30)<|yl rfl (fn (.func 117) [] [optr 6 1 0]) (LOp.makeFunc rfl rfl)<|ye rfl (tup [agg (z01x r9 r11 r12 r13), b r10]) ([z01v, oJ 2 r11, oJ 2 r12, oF 2 r13, ⟨1, none⟩, (z01y r8), ⟨1, some [oref 5 1 0 r8.length]⟩]) (TOp.callBN (ls := [(r11.map i64), (r12.map i64), (r13.map f32)]) [1, 2, 3] (CallAs.func ent116 rfl rfl) (Bors.cons (Bor.agg (bP (bS (bS (bS bN))))) (Bors.cons (Bor.fn bN (Bors.cons (Bor.optr rfl (Bors.p (Bors.cons (Bor.own (f := (ik .u64)) (fun _ => rfl) rfl rfl) bN)) rfl) bN)) bN)) rfl (K1b_ok a0 a1 a2 a3 r8 r9 r10 r11 r12 r13 hf7) (and_all (lts0_map (f := i64) (fun _ => rfl) _) (and_all (lts0_map (f := i64) (fun _ => rfl) _) (and_all (lts0_map (f := f32) (fun _ => rfl) _) rfl))) (and_all (noss_map (f := i64) (fun _ => rfl) _) (and_all (noss_map (f := i64) (fun _ => rfl) _) (and_all (noss_map (f := f32) (fun _ => rfl) _) rfl))) rfl (by decide) (ns_of ⟨⟨_, rfl⟩, ⟨_, rfl⟩, ⟨_, rfl⟩, trivial⟩))<|yl rfl (agg (z01x r9 r11 r12 r13)) n3<|yl rfl (b r10) n3<|ys (agg (z01x r9 r11 r12 r13)) (z01x r9 r11 r12 r13) ([⟨1, some (z01x r9 r11 r12 r13)⟩, oJ 2 r11, oJ 2 r12, oF 2 r13, ⟨1, none⟩, (z01y r8), ⟨1, some [oref 5 1 0 r8.length]⟩]) siz30<|ya rfl (b r10)<|zN ?_
  refine RunC.ret ?_
  have hq := oI h
  obtain ⟨hq0, hq⟩ := Prod.mk.inj hq
  obtain ⟨hq1, hq⟩ := Prod.mk.inj hq
  obtain ⟨hq2, hq⟩ := Prod.mk.inj hq
  obtain ⟨hq3, hq⟩ := Prod.mk.inj hq
  subst q0
  subst q1
  subst q2
  subst q3
  subst q4
  exact yB (tup [agg (z01x r9 r11 r12 r13), b r10]) [(1, 2), (2, 2), (3, 2)] (Res.two rfl (RV.cell agg30 siz30 rfl rfl rfl rfl) (RV.tmp rfl)) (SelL.arr0 (f := i64) (fun _ => rfl) rfl (SelL.arr0 (f := i64) (fun _ => rfl) rfl (sA rfl trivial)))
 ·refine yW<|yl rfl (agg (z01w a0 a1 a2 a3)) (yL agg30 siz30)<|yd rfl (b false) (TOp.eqb (TOp.callB (CallAs.func ent30 rfl rfl) (Bors.cons (Bor.agg (bP (bS (bS (bS bN))))) bN) rfl rfl (K0w_ok a0 a1 a2 a3 r1 hf1)) hc2)<|yl rfl (b true) n0<|zN ?_
  refine yT<|zQ<|yl rfl (agg [i64 0, nilsl, nilsl, nilsl]) (LOp.build (qs := []) zer30 zok30 und30 plc30 rfl trivial rfl)<|ys (agg [i64 0, nilsl, nilsl, nilsl]) [i64 0, nilsl, nilsl, nilsl] ([z01v, o0, o0, o0, o0, o0, o0]) siz30<|ya rfl (b false)<|zN ?_
  refine RunC.nil_cell (l' := [i64 0, oref 1 1 0 0, nilsl, nilsl]) (Γ' := [⟨1, some [i64 0, oref 1 1 0 0, nilsl, nilsl]⟩, oJ 1 [], o0, o0, o0, o0, o0]) 0 1 1 rfl rfl rfl rfl rfl<|RunC.nil_cell (l' := [i64 0, oref 1 1 0 0, oref 2 1 0 0, nilsl]) (Γ' := [⟨1, some [i64 0, oref 1 1 0 0, oref 2 1 0 0, nilsl]⟩, oJ 1 [], oJ 1 [], o0, o0, o0, o0]) 0 2 2 rfl rfl rfl rfl rfl<|RunC.nil_cell (l' := [i64 0, oref 1 1 0 0, oref 2 1 0 0, oref 3 1 0 0]) (Γ' := [⟨1, some [i64 0, oref 1 1 0 0, oref 2 1 0 0, oref 3 1 0 0]⟩, oJ 1 [], oJ 1 [], oF 1 [], o0, o0, o0]) 0 3 3 rfl rfl rfl rfl rfl<|RunC.ret ?_
  have hq := oI h
  obtain ⟨hq0, hq⟩ := Prod.mk.inj hq
  obtain ⟨hq1, hq⟩ := Prod.mk.inj hq
  obtain ⟨hq2, hq⟩ := Prod.mk.inj hq
  obtain ⟨hq3, hq⟩ := Prod.mk.inj hq
  subst q0
  subst q1
  subst q2
  subst q3
  subst q4
  exact yB (tup [agg [i64 0, oref 1 1 0 (([] : List Int).length), oref 2 1 0 (([] : List Int).length), oref 3 1 0 (([] : List F).length)], b false]) [(1, 1), (2, 1), (3, 1)] (Res.eq (Res.two rfl (RV.cell agg30 siz30 rfl rfl rfl rfl) (RV.tmp rfl)) (by first | rfl | (rw [(show ([] : List Int).length = 0 from rfl), (show ([] : List F).length = 0 from rfl)] <;> rfl))) (SelL.arr0 (f := i64) (fun _ => rfl) rfl (SelL.arr0 (f := i64) (fun _ => rfl) rfl (sA rfl trivial)))

def K1d (a0 : Int) (a1 : Int) (a2 : List (Int × Int × F)) : Option (Bool × (List (Int × Int × F))) :=
 some ((mget a2 a0 a1).isSome, a2)
theorem K1d_ok (a0 : Int) (a1 : Int) (a2 : List (Int × Int × F)) (q0 : Bool) (q1 : List (Int × Int × F)) (h : K1d a0 a1 a2 = some (q0, q1)) : Ev Try.prog 118 [i64 a0, i64 a1, optr 0 0 0] [⟨0, some [mref 1 0]⟩, ⟨0, some (mpc a2)⟩] (b q0) [⟨0, some [mref 1 0]⟩, ⟨0, some (mpc q1)⟩] := by
 refine Ev.start Try.func118 rfl rfl 0 (τ := [(0, i64 a0), (1, i64 a1), (2, optr 0 0 0)]) rfl (Γ' := [⟨0, some [mref 1 0]⟩, ⟨0, some (mpc a2)⟩]) rfl (n := 34) rfl (g := 2) rfl (by decide) ?_
 unfold K1d at h
 refine zQ<|ya rfl (b false)<|zN ?_
 refine zQ<|yd rfl (mref 1 0) (TOp.load1_o rfl rfl agg98 rfl rfl)<|ym rfl (i64 a0)<|ym rfl (i64 a1)<|yl rfl (agg [i64 a0, i64 a1]) (LOp.build (qs := [(0, [i64 a0]), (1, [i64 a1])]) zer101 zok101 und101 plc101 rfl ⟨rfl, ⟨_, ALe.refl _, rfl⟩, ⟨rfl, ⟨_, ALe.refl _, rfl⟩, trivial⟩⟩ rfl)<|yd rfl (tup [f32 ((mget a2 a0 a1).getD (some 0)), b ((mget a2 a0 a1).isSome)]) (TOp.mgetok und98 pky101 zer26 zel26 rfl rfl rfl rfl rfl rfl)<|ym rfl (tup [f32 ((mget a2 a0 a1).getD (some 0)), b ((mget a2 a0 a1).isSome)])<|yl rfl (f32 ((mget a2 a0 a1).getD (some 0))) n3<|yl rfl (b ((mget a2 a0 a1).isSome)) n3<|ya rfl (f32 ((mget a2 a0 a1).getD (some 0)))<|ya rfl (b ((mget a2 a0 a1).isSome))<|zN ?_
 refine RunC.wl (τ' := [(7, b ((mget a2 a0 a1).isSome))]) (Γ' := [⟨0, some [mref 1 0]⟩, ⟨0, some (mpc a2)⟩]) ⟨aR, trivial⟩ ⟨dR, dR, trivial⟩<|zQ<|ym rfl (b ((mget a2 a0 a1).isSome))<|ya rfl (b ((mget a2 a0 a1).isSome))<|zN ?_
 refine RunC.ret ?_
 have hq := oI h
 obtain ⟨hq0, hq⟩ := Prod.mk.inj hq
 subst q0
 subst q1
 exact yB (b ((mget a2 a0 a1).isSome)) [(0, 0), (1, 0)] (Res.one rfl (RV.tmp rfl)) (SelL.cells rfl (by first | rfl | simp [ren, rens, sigma, rens_f32, rens_f64, rens_i64, rens_ik, rens_str, rens_cp, rens_mpc]) rfl (SelL.map rfl trivial))

def K1e_k17 (v8 : Int) (L24 : List (Int × Int × F)) (L25 : List (Int × Int × F)) : Option (LR ((List (Int × Int × F)) × (List (Int × Int × F)) × Int) ((List (Int × Int × F)) × (List (Int × Int × F))) (Int × Bool × (List (Int × Int × F)) × (List Int) × (List Int) × (List F))) :=
 olet (IntKind.i64.wrap (v8 + 1)) fun (x26 : Int) =>
 some (LR.next (L25, L24, x26))
def K1e_k15 (v13 : Int) (y16 : F) : Option (LR (F × Int) (F) (Int × Bool × (List (Int × Int × F)) × (List Int) × (List Int) × (List F))) :=
 olet (IntKind.i64.wrap (v13 + 1)) fun (x17 : Int) =>
 some (LR.next (y16, x17))
def K1e_b16 (v4 : Int) (L7 : List (Int × Int × F)) (v8 : Int) (y12 : F) (v13 : Int) : Option (LR (F × Int) (F) (Int × Bool × (List (Int × Int × F)) × (List Int) × (List Int) × (List F))) :=
 bsel (decide (v13 < v8)) (
  bsel ((mget L7 v4 v13).isSome) (
   bsel ((mget L7 v8 v13).isSome) (
    obind (K18 ((mget L7 v4 v13).getD (some 0)) ((mget L7 v8 v13).getD (some 0))) fun (r14 : F) =>
    olet (fop .sub .f32 y12 r14) fun (x15 : F) =>
    K1e_k15 v13 x15) (
    K1e_k15 v13 y12)) (
   bsel ((mget L7 v8 v13).isSome) (
    K1e_k15 v13 y12) (
    K1e_k15 v13 y12))) (
  some (LR.out y12))
def K1e_s16 (v4 : Int) (L7 : List (Int × Int × F)) (v8 : Int) : (F × Int) → Option (LR (F × Int) (F) (Int × Bool × (List (Int × Int × F)) × (List Int) × (List Int) × (List F))) := fun s => K1e_b16 v4 L7 v8 s.1 s.2
def K1e_k16 (v4 : Int) (L7 : List (Int × Int × F)) (v8 : Int) (r10 : List (Int × Int × F)) (y18 : F) : Option (LR ((List (Int × Int × F)) × (List (Int × Int × F)) × Int) ((List (Int × Int × F)) × (List (Int × Int × F))) (Int × Bool × (List (Int × Int × F)) × (List Int) × (List Int) × (List F))) :=
 bsel (decide (v8 < v4)) (
  olet ((mget L7 v8 v8).getD (some 0)) fun (x19 : F) =>
  olet (fop .quo .f32 y18 x19) fun (x20 : F) =>
  olet (mput L7 v4 v8 x20) fun (L21 : List (Int × Int × F)) =>
  K1e_k17 v8 L21 r10) (
  bsel (flt .f32 (some 0) y18) (
   obind (K1a y18) fun (r22 : F) =>
   olet (mput L7 v4 v8 r22) fun (L23 : List (Int × Int × F)) =>
   K1e_k17 v8 L23 r10) (
   some (LR.ret (0, false, r10, ([] : List Int), ([] : List Int), ([] : List F)))))
def K1e_b18 (r1 : List (Int × Int × F)) (v4 : Int) (x5 : Int) (L6 : List (Int × Int × F)) (L7 : List (Int × Int × F)) (v8 : Int) : Option (LR ((List (Int × Int × F)) × (List (Int × Int × F)) × Int) ((List (Int × Int × F)) × (List (Int × Int × F))) (Int × Bool × (List (Int × Int × F)) × (List Int) × (List Int) × (List F))) :=
 bsel (decide (v8 < x5)) (
  obind2 (K1d v4 v8 L6) fun (r9 : Bool) (r10 : List (Int × Int × F)) =>
  bsel (!r9) (
   K1e_k17 v8 L7 r10) (
   olet ((mget r1 v4 v8).getD (some 0)) fun (x11 : F) =>
   obind (loopM (K1e_s16 v4 L7 v8) (x11, 0)) fun z => osum z (fun e => K1e_k16 v4 L7 v8 r10 e) (fun r => some (LR.ret r)))) (
  some (LR.out (L6, L7)))
def K1e_s18 (r1 : List (Int × Int × F)) (v4 : Int) (x5 : Int) : ((List (Int × Int × F)) × (List (Int × Int × F)) × Int) → Option (LR ((List (Int × Int × F)) × (List (Int × Int × F)) × Int) ((List (Int × Int × F)) × (List (Int × Int × F))) (Int × Bool × (List (Int × Int × F)) × (List Int) × (List Int) × (List F))) := fun s => K1e_b18 r1 v4 x5 s.1 s.2.1 s.2.2
def K1e_k18 (v4 : Int) (L27 : List (Int × Int × F)) (L28 : List (Int × Int × F)) : Option (LR ((List (Int × Int × F)) × (List (Int × Int × F)) × Int) ((List (Int × Int × F)) × (List (Int × Int × F))) (Int × Bool × (List (Int × Int × F)) × (List Int) × (List Int) × (List F))) :=
 olet (IntKind.i64.wrap (v4 + 1)) fun (x29 : Int) =>
 some (LR.next (L27, L28, x29))
def K1e_b19 (a0 : Int) (r1 : List (Int × Int × F)) (L2 : List (Int × Int × F)) (L3 : List (Int × Int × F)) (v4 : Int) : Option (LR ((List (Int × Int × F)) × (List (Int × Int × F)) × Int) ((List (Int × Int × F)) × (List (Int × Int × F))) (Int × Bool × (List (Int × Int × F)) × (List Int) × (List Int) × (List F))) :=
 bsel (decide (v4 < a0)) (
  olet (IntKind.i64.wrap (v4 + 1)) fun (x5 : Int) =>
  obind (loopM (K1e_s18 r1 v4 x5) (L2, L3, 0)) fun z => osum z (fun e => K1e_k18 v4 e.1 e.2) (fun r => some (LR.ret r))) (
  some (LR.out (L2, L3)))
def K1e_s19 (a0 : Int) (r1 : List (Int × Int × F)) : ((List (Int × Int × F)) × (List (Int × Int × F)) × Int) → Option (LR ((List (Int × Int × F)) × (List (Int × Int × F)) × Int) ((List (Int × Int × F)) × (List (Int × Int × F))) (Int × Bool × (List (Int × Int × F)) × (List Int) × (List Int) × (List F))) := fun s => K1e_b19 a0 r1 s.1 s.2.1 s.2.2
def K1e_k19 (a0 : Int) (L30 : List (Int × Int × F)) (L31 : List (Int × Int × F)) : Option (Int × Bool × (List (Int × Int × F)) × (List Int) × (List Int) × (List F)) :=
 obind6 (K10 a0 L31) fun (r32 : Int) (r33 : Bool) (r34 : List (Int × Int × F)) (r35 : List Int) (r36 : List Int) (r37 : List F) =>
 some (r32, r33, L30, r35, r36, r37)
def K1e (a0 : Int) (a1 : List Int) (a2 : List Int) (a3 : List F) (a4 : List (Int × Int × F)) : Option (Int × Bool × (List (Int × Int × F)) × (List Int) × (List Int) × (List F)) :=
 obind (K0z a0 a1 a2 a3) fun (r1 : List (Int × Int × F)) =>
 obind (loopM (K1e_s19 a0 r1) (a4, ([] : List (Int × Int × F)), 0)) fun z => osum z (fun e => K1e_k19 a0 e.1 e.2) (fun r => some r)
abbrev z01z (r10 : List (Int × Int × F)) (r1 : List (Int × Int × F)) (L7 : List (Int × Int × F)) : List Ob := [⟨0, some [mref 1 0]⟩, ⟨0, some (mpc r10)⟩, ⟨1, some [i64 0, nilsl, nilsl, nilsl]⟩, ⟨1, some (mpc r1)⟩, ⟨1, some (mpc L7)⟩, o0, o0, o0]
abbrev z020 (a0 : Int) (a1 : List Int) (a2 : List Int) (a3 : List F) : List AV := [i64 a0, sl a1.length (a1.map i64), sl a2.length (a2.map i64), (sFc a3)]
abbrev z021 : Ob := ⟨1, some [i64 0, nilsl, nilsl, nilsl]⟩
abbrev z022 (L7 : List (Int × Int × F)) (v8 : Int) (v13 : Int) : AV := tup [f32 ((mget L7 v8 v13).getD (some 0)), b ((mget L7 v8 v13).isSome)]
abbrev z023 (r32 : Int) (r35 : List Int) (r36 : List Int) (r37 : List F) : List AV := [i64 r32, oref 3 2 0 r35.length, oref 5 1 0 r36.length, oref 6 1 0 r37.length]
abbrev z024 (L7 : List (Int × Int × F)) (v8 : Int) (v13 : Int) : AV := f32 ((mget L7 v8 v13).getD (some 0))
abbrev z025 (L7 : List (Int × Int × F)) (v4 : Int) (v13 : Int) : AV := tup [f32 ((mget L7 v4 v13).getD (some 0)), b ((mget L7 v4 v13).isSome)]
theorem K1e_ok (a0 : Int) (a1 : List Int) (a2 : List Int) (a3 : List F) (a4 : List (Int × Int × F)) (q0 : Int) (q1 : Bool) (q2 : List (Int × Int × F)) (q3 : List Int) (q4 : List Int) (q5 : List F) (h : K1e a0 a1 a2 a3 a4 = some (q0, q1, q2, q3, q4, q5)) : Ev Try.prog 116 [agg [i64 a0, sl a1.length (a1.map i64), sl a2.length (a2.map i64), (sFc a3)], fn (.func 118) [] [optr 0 0 0]] [⟨0, some [mref 1 0]⟩, ⟨0, some (mpc a4)⟩] (tup [agg [i64 q0, oref 2 0 0 q3.length, oref 3 0 0 q4.length, oref 4 0 0 q5.length], b q1]) [⟨0, some [mref 1 0]⟩, ⟨0, some (mpc q2)⟩, oJ 0 q3, oJ 0 q4, oF 0 q5] := by
 refine Ev.start Try.func116 rfl rfl 6 (τ := [(0, agg (z020 a0 a1 a2 a3)), (1, fn (.func 118) [] [optr 0 0 0])]) rfl (Γ' := [⟨0, some [mref 1 0]⟩, ⟨0, some (mpc a4)⟩, o0, o0, o0, o0, o0, o0]) rfl (n := 204) rfl (g := 2) rfl (by decide) ?_
 unfold K1e at h
 refine zQ<|yd rfl (ptr (z020 a0 a1 a2 a3)) (TOp.box_s rfl rfl rfl)<|ye rfl (optr 2 1 0) ([⟨0, some [mref 1 0]⟩, ⟨0, some (mpc a4)⟩, z021, o0, o0, o0, o0, o0]) (TOp.alloc_o (g := o0) 2 rfl zer30 zok30 rfl)<|ya rfl (b false)<|zN ?_
 refine yS ?_
 obtain ⟨r1, hf1, h⟩ := oS h
 refine yW<|yl rfl (agg (z020 a0 a1 a2 a3)) (yL agg30 siz30)<|ye rfl (mref 3 1) ([⟨0, some [mref 1 0]⟩, ⟨0, some (mpc a4)⟩, z021, ⟨1, some (mpc r1)⟩, o0, o0, o0, o0]) (TOp.callBN (ls := [(mpc r1)]) [3] (CallAs.func ent83 rfl rfl) (Bors.cons (Bor.agg (bP (bS (bS (bS bN))))) bN) rfl (K0z_ok a0 a1 a2 a3 r1 hf1) (and_all (lt_mpc 0 _) rfl) (and_all (noss_mpc _) rfl) rfl (by decide) (ns_of ⟨⟨_, rfl⟩, trivial⟩))<|ye rfl (mref 4 1) ([⟨0, some [mref 1 0]⟩, ⟨0, some (mpc a4)⟩, z021, ⟨1, some (mpc r1)⟩, ⟨1, some (mpc ([] : List (Int × Int × F)))⟩, o0, o0, o0]) (TOp.mkMap (g := o0) 4 rfl rfl)<|ya rfl (mref 3 1)<|ya rfl (mref 4 1)<|zN ?_
 refine yS<|zQ<|yl rfl (ptr (z020 a0 a1 a2 a3)) (LOp.fap und30 rfl siz2 rfl rfl rfl)<|yl rfl (i64 a0) (n2 agg2)<|ym rfl (i64 0)<|zN ?_
 obtain ⟨z20, hz_20, h⟩ := oS h
 refine RunC.cutN (fun τ Γ => ∃ (L30 : List (Int × Int × F)) (L31 : List (Int × Int × F)), WeakLe τ [(2, ptr (z020 a0 a1 a2 a3)), (4, optr 2 1 0), (7, mref 4 1)] ∧ DeadLe Γ [⟨0, some [mref 1 0]⟩, ⟨0, some (mpc L30)⟩, z021, ⟨1, none⟩, ⟨1, some (mpc L31)⟩, o0, o0, o0] ∧ z20 = .inl (L30, L31)) ?_ ?_
 ·refine RunC.block (RunC.loop (RunL.loopM (x := z20) (K1e_s19 a0 r1) (fun (s : (List (Int × Int × F)) × (List (Int × Int × F)) × Int) τ Γ => WeakLe τ [(1, fn (.func 118) [] [optr 0 0 0]), (2, ptr (z020 a0 a1 a2 a3)), (4, optr 2 1 0), (6, mref 3 1), (7, mref 4 1), (20, i64 a0), (21, i64 s.2.2)] ∧ DeadLe Γ [⟨0, some [mref 1 0]⟩, ⟨0, some (mpc s.1)⟩, z021, ⟨1, some (mpc r1)⟩, ⟨1, some (mpc s.2.1)⟩, o0, o0, o0]) ?_ _ _ _ hz_20 ⟨⟨aR, aR, aR, aR, aR, aR, aR, trivial⟩, ⟨dR, dR, dR, dR, dR, dR, dR, dR, trivial⟩⟩))
  rintro ⟨L2, L3, v4⟩ τ20 Γ20 y20_ ⟨hw20, hd20⟩ h20_ ho20 hr20
  refine RunC.wl (τ' := [(1, fn (.func 118) [] [optr 0 0 0]), (2, ptr (z020 a0 a1 a2 a3)), (4, optr 2 1 0), (6, mref 3 1), (7, mref 4 1), (20, i64 a0), (21, i64 v4)]) (Γ' := [⟨0, some [mref 1 0]⟩, ⟨0, some (mpc L2)⟩, z021, ⟨1, some (mpc r1)⟩, ⟨1, some (mpc L3)⟩, o0, o0, o0]) hw20 hd20 ?_
  replace h20_ : K1e_b19 a0 r1 L2 L3 v4 = some y20_ := h20_
  unfold K1e_b19 at h20_
  refine yS ?_
  rcases oB h20_ with ⟨hc2, h20_⟩ | ⟨hc2, h20_⟩
  ·refine yW<|yl rfl (b true) (LOp.eqb (LOp.lss rfl rfl rfl) hc2)<|zN ?_
   refine yS<|yT<|RunC.skip<|yS<|RunC.block<|zQ<|ym rfl (i64 v4)<|ya rfl (i64 v4)<|zN ?_
   refine yS ?_
   obtain ⟨x5, hx3, h20_⟩ := oL h20_
   refine yW<|ym rfl (i64 v4)<|yl rfl (i64 x5) (LOp.eqr (LOp.add rfl rfl rfl) (congrArg (ik .i64) hx3))<|ym rfl (i64 0)<|zN ?_
   obtain ⟨z21, hz_21, h20_⟩ := oS h20_
   refine RunC.cutN (fun τ Γ => ∃ (L27 : List (Int × Int × F)) (L28 : List (Int × Int × F)), WeakLe τ [(1, fn (.func 118) [] [optr 0 0 0]), (2, ptr (z020 a0 a1 a2 a3)), (4, optr 2 1 0), (6, mref 3 1), (7, mref 4 1), (20, i64 a0), (21, i64 v4)] ∧ DeadLe Γ [⟨0, some [mref 1 0]⟩, ⟨0, some (mpc L27)⟩, z021, ⟨1, some (mpc r1)⟩, ⟨1, some (mpc L28)⟩, o0, o0, o0] ∧ z21 = .inl (L27, L28)) ?_ ?_
   ·refine RunC.block (RunC.loop (RunL.loopM (x := z21) (K1e_s18 r1 v4 x5) (fun (s : (List (Int × Int × F)) × (List (Int × Int × F)) × Int) τ Γ => WeakLe τ [(1, fn (.func 118) [] [optr 0 0 0]), (2, ptr (z020 a0 a1 a2 a3)), (4, optr 2 1 0), (6, mref 3 1), (7, mref 4 1), (8, i64 v4), (20, i64 a0), (21, i64 v4), (25, i64 x5), (26, i64 s.2.2)] ∧ DeadLe Γ [⟨0, some [mref 1 0]⟩, ⟨0, some (mpc s.1)⟩, z021, ⟨1, some (mpc r1)⟩, ⟨1, some (mpc s.2.1)⟩, o0, o0, o0]) ?_ _ _ _ hz_21 ⟨⟨aR, aR, aR, aR, aR, aR, aR, aR, aR, aR, trivial⟩, ⟨dR, dR, dR, dR, dR, dR, dR, dR, trivial⟩⟩))
    rintro ⟨L6, L7, v8⟩ τ21 Γ21 y21_ ⟨hw21, hd21⟩ h21_ ho21 hr21
    refine RunC.wl (τ' := [(1, fn (.func 118) [] [optr 0 0 0]), (2, ptr (z020 a0 a1 a2 a3)), (4, optr 2 1 0), (6, mref 3 1), (7, mref 4 1), (8, i64 v4), (20, i64 a0), (21, i64 v4), (25, i64 x5), (26, i64 v8)]) (Γ' := [⟨0, some [mref 1 0]⟩, ⟨0, some (mpc L6)⟩, z021, ⟨1, some (mpc r1)⟩, ⟨1, some (mpc L7)⟩, o0, o0, o0]) hw21 hd21 ?_
    replace h21_ : K1e_b18 r1 v4 x5 L6 L7 v8 = some y21_ := h21_
    unfold K1e_b18 at h21_
    refine yS ?_
    rcases oB h21_ with ⟨hc4, h21_⟩ | ⟨hc4, h21_⟩
    ·refine yW<|yl rfl (b true) (LOp.eqb (LOp.lss rfl rfl rfl) hc4)<|zN ?_
     refine yS<|yT<|RunC.skip<|yS<|RunC.cutN (fun τ Γ => ∃ (L24 : List (Int × Int × F)) (L25 : List (Int × Int × F)), WeakLe τ [(1, fn (.func 118) [] [optr 0 0 0]), (2, ptr (z020 a0 a1 a2 a3)), (4, optr 2 1 0), (6, mref 3 1), (7, mref 4 1), (8, i64 v4), (20, i64 a0), (21, i64 v4), (25, i64 x5), (26, i64 v8)] ∧ DeadLe Γ [⟨0, some [mref 1 0]⟩, ⟨0, some (mpc L25)⟩, z021, ⟨1, some (mpc r1)⟩, ⟨1, some (mpc L24)⟩, o0, o0, o0] ∧ K1e_k17 v8 L24 L25 = some y21_) ?_ ?_
     ·refine RunC.block<|zQ<|ym rfl (i64 v8)<|ya rfl (i64 v8)<|zN ?_
      refine yS<|yS ?_
      obtain ⟨r9, r10, hf5, h21_⟩ := obind2_some h21_
      rcases oB h21_ with ⟨hc6, h21_⟩ | ⟨hc6, h21_⟩
      ·refine yW<|ym rfl (fn (.func 118) [] [optr 0 0 0])<|ym rfl (i64 v4)<|ym rfl (i64 v8)<|ROps.callO (A := [i64 v4, i64 v8, optr 0 0 0]) (args := [i64 v4, i64 v8, optr 0 0 0]) (Γc := [⟨0, some [mref 1 0]⟩, ⟨0, some (mpc L6)⟩]) (Γc' := [⟨0, some [mref 1 0]⟩, ⟨0, some (mpc r10)⟩]) (r' := b r9) (Γ' := (z01z r10 r1 L7)) [(0, 0), (1, 0)] [] rfl (CallAs.fn ent118 rfl rfl rfl rfl) rfl rfl (SelOk.of (show List.Nodup [0, 1] from by decide) (SelL.cells0 rfl (by simp [ren, rens, sigma, rens_f32, rens_f64, rens_i64, rens_ik, rens_str, rens_cp, rens_mpc]) rfl (SelL.map0 rfl trivial))) (live_of ⟨⟨_, _, rfl⟩, ⟨_, _, rfl⟩, trivial⟩) (by simp [ren, rens, sigma, rens_f32, rens_f64, rens_i64, rens_ik, rens_str, rens_cp, rens_mpc]) rfl (K1d_ok v4 v8 L6 r9 r10 hf5) rfl (news_of trivial) (show List.Nodup [0, 1] from by decide) (by simp [ren, rens, sigma]) (by simp [backOb, sigma, ren, rens, rens_f32, rens_f64, rens_i64, rens_ik, rens_str, rens_cp, rens_mpc] <;> omega)<|yl rfl (b true) (LOp.eqb (LOp.not rfl rfl) hc6)<|zN ?_
       refine yT<|RunC.exit ?_
       exact ⟨L7, r10, ⟨aR, aR, aR, aR, aR, aR, aR, aR, aR, aR, trivial⟩, ⟨dR, dR, dR, dR, dR, dR, dR, dR, trivial⟩, h21_⟩
      ·refine yW<|ym rfl (fn (.func 118) [] [optr 0 0 0])<|ym rfl (i64 v4)<|ym rfl (i64 v8)<|ROps.callO (A := [i64 v4, i64 v8, optr 0 0 0]) (args := [i64 v4, i64 v8, optr 0 0 0]) (Γc := [⟨0, some [mref 1 0]⟩, ⟨0, some (mpc L6)⟩]) (Γc' := [⟨0, some [mref 1 0]⟩, ⟨0, some (mpc r10)⟩]) (r' := b r9) (Γ' := (z01z r10 r1 L7)) [(0, 0), (1, 0)] [] rfl (CallAs.fn ent118 rfl rfl rfl rfl) rfl rfl (SelOk.of (show List.Nodup [0, 1] from by decide) (SelL.cells0 rfl (by simp [ren, rens, sigma, rens_f32, rens_f64, rens_i64, rens_ik, rens_str, rens_cp, rens_mpc]) rfl (SelL.map0 rfl trivial))) (live_of ⟨⟨_, _, rfl⟩, ⟨_, _, rfl⟩, trivial⟩) (by simp [ren, rens, sigma, rens_f32, rens_f64, rens_i64, rens_ik, rens_str, rens_cp, rens_mpc]) rfl (K1d_ok v4 v8 L6 r9 r10 hf5) rfl (news_of trivial) (show List.Nodup [0, 1] from by decide) (by simp [ren, rens, sigma]) (by simp [backOb, sigma, ren, rens, rens_f32, rens_f64, rens_i64, rens_ik, rens_str, rens_cp, rens_mpc] <;> omega)<|yl rfl (b false) (LOp.eqb (LOp.not rfl rfl) hc6)<|zN ?_
       refine yF<|RunC.skip<|yS ?_
       obtain ⟨x11, hx7, h21_⟩ := oL h21_
       refine yW<|ym rfl (mref 3 1)<|ym rfl (i64 v4)<|ym rfl (i64 v8)<|yl rfl (agg [i64 v4, i64 v8]) (LOp.build (qs := [(0, [i64 v4]), (1, [i64 v8])]) zer101 zok101 und101 plc101 rfl ⟨rfl, ⟨_, ALe.refl _, rfl⟩, ⟨rfl, ⟨_, ALe.refl _, rfl⟩, trivial⟩⟩ rfl)<|yd rfl (f32 x11) (TOp.eqr (TOp.mget und98 pky101 zer26 zel26 rfl rfl rfl rfl rfl) (congrArg f32 hx7))<|ya rfl (f32 x11)<|zN ?_
       refine yS<|zQ<|ym rfl (i64 v8)<|ym rfl (i64 0)<|zN ?_
       obtain ⟨z22, hz_22, h21_⟩ := oS h21_
       refine RunC.cutN (fun τ Γ => ∃ (y18 : F), WeakLe τ [(1, fn (.func 118) [] [optr 0 0 0]), (2, ptr (z020 a0 a1 a2 a3)), (4, optr 2 1 0), (6, mref 3 1), (7, mref 4 1), (8, i64 v4), (9, i64 v8), (10, f32 y18), (20, i64 a0), (21, i64 v4), (25, i64 x5), (26, i64 v8)] ∧ DeadLe Γ (z01z r10 r1 L7) ∧ z22 = .inl y18) ?_ ?_
       ·refine RunC.block (RunC.loop (RunL.loopM (x := z22) (K1e_s16 v4 L7 v8) (fun (s : F × Int) τ Γ => WeakLe τ [(1, fn (.func 118) [] [optr 0 0 0]), (2, ptr (z020 a0 a1 a2 a3)), (4, optr 2 1 0), (6, mref 3 1), (7, mref 4 1), (8, i64 v4), (9, i64 v8), (10, f32 s.1), (20, i64 a0), (21, i64 v4), (25, i64 x5), (26, i64 v8), (39, i64 v8), (40, i64 s.2)] ∧ DeadLe Γ (z01z r10 r1 L7)) ?_ _ _ _ hz_22 ⟨⟨aR, aR, aR, aR, aR, aR, aR, aR, aR, aR, aR, aR, aR, aR, trivial⟩, ⟨dR, dR, dR, dR, dR, dR, dR, dR, trivial⟩⟩))
        rintro ⟨y12, v13⟩ τ22 Γ22 y22_ ⟨hw22, hd22⟩ h22_ ho22 hr22
        refine RunC.wl (τ' := [(1, fn (.func 118) [] [optr 0 0 0]), (2, ptr (z020 a0 a1 a2 a3)), (4, optr 2 1 0), (6, mref 3 1), (7, mref 4 1), (8, i64 v4), (9, i64 v8), (10, f32 y12), (20, i64 a0), (21, i64 v4), (25, i64 x5), (26, i64 v8), (39, i64 v8), (40, i64 v13)]) (Γ' := (z01z r10 r1 L7)) hw22 hd22 ?_
        replace h22_ : K1e_b16 v4 L7 v8 y12 v13 = some y22_ := h22_
        unfold K1e_b16 at h22_
        refine yS ?_
        rcases oB h22_ with ⟨hc8, h22_⟩ | ⟨hc8, h22_⟩
        ·refine yW<|yl rfl (b true) (LOp.eqb (LOp.lss rfl rfl rfl) hc8)<|zN ?_
         refine yS<|yT<|RunC.skip<|yS<|RunC.cutN (fun τ Γ => ∃ (y16 : F), WeakLe τ [(1, fn (.func 118) [] [optr 0 0 0]), (2, ptr (z020 a0 a1 a2 a3)), (4, optr 2 1 0), (6, mref 3 1), (7, mref 4 1), (8, i64 v4), (9, i64 v8), (10, f32 y16), (20, i64 a0), (21, i64 v4), (25, i64 x5), (26, i64 v8), (39, i64 v8), (40, i64 v13)] ∧ DeadLe Γ (z01z r10 r1 L7) ∧ K1e_k15 v13 y16 = some y22_) ?_ ?_
         ·refine RunC.block<|zQ<|ym rfl (i64 v13)<|ya rfl (i64 v13)<|zN ?_
          refine yS ?_
          rcases oB h22_ with ⟨hc9, h22_⟩ | ⟨hc9, h22_⟩
          ·refine yW<|ym rfl (mref 4 1)<|ym rfl (i64 v4)<|ym rfl (i64 v13)<|yl rfl (agg [i64 v4, i64 v13]) (LOp.build (qs := [(0, [i64 v4]), (1, [i64 v13])]) zer101 zok101 und101 plc101 rfl ⟨rfl, ⟨_, ALe.refl _, rfl⟩, ⟨rfl, ⟨_, ALe.refl _, rfl⟩, trivial⟩⟩ rfl)<|yd rfl (z025 L7 v4 v13) (TOp.mgetok und98 pky101 zer26 zel26 rfl rfl rfl rfl rfl rfl)<|ym rfl (z025 L7 v4 v13)<|yl rfl (f32 ((mget L7 v4 v13).getD (some 0))) n3<|yl rfl (b true) (LOp.eqb n3 hc9)<|ya rfl (f32 ((mget L7 v4 v13).getD (some 0)))<|ya rfl (b true)<|zN ?_
           refine yS ?_
           rcases oB h22_ with ⟨hc10, h22_⟩ | ⟨hc10, h22_⟩
           ·refine yW<|ym rfl (mref 4 1)<|ym rfl (i64 v8)<|ym rfl (i64 v13)<|yl rfl (agg [i64 v8, i64 v13]) (LOp.build (qs := [(0, [i64 v8]), (1, [i64 v13])]) zer101 zok101 und101 plc101 rfl ⟨rfl, ⟨_, ALe.refl _, rfl⟩, ⟨rfl, ⟨_, ALe.refl _, rfl⟩, trivial⟩⟩ rfl)<|yd rfl (z022 L7 v8 v13) (TOp.mgetok und98 pky101 zer26 zel26 rfl rfl rfl rfl rfl rfl)<|ym rfl (z022 L7 v8 v13)<|yl rfl (z024 L7 v8 v13) n3<|yl rfl (b true) (LOp.eqb n3 hc10)<|ya rfl (z024 L7 v8 v13)<|ya rfl (b true)<|zN ?_
            refine RunC.wl (τ' := [(1, fn (.func 118) [] [optr 0 0 0]), (2, ptr (z020 a0 a1 a2 a3)), (4, optr 2 1 0), (6, mref 3 1), (7, mref 4 1), (8, i64 v4), (9, i64 v8), (10, f32 y12), (12, f32 ((mget L7 v4 v13).getD (some 0))), (13, b true), (14, f32 ((mget L7 v8 v13).getD (some 0))), (15, b true), (20, i64 a0), (21, i64 v4), (25, i64 x5), (26, i64 v8), (39, i64 v8), (40, i64 v13)]) (Γ' := (z01z r10 r1 L7)) ⟨aR, aR, aR, aR, aR, aR, aR, aR, aR, aR, aR, aR, aR, aR, aR, aR, aR, aR, trivial⟩ ⟨dR, dR, dR, dR, dR, dR, dR, dR, trivial⟩<|zQ<|ym rfl (b true)<|ym rfl (b true)<|ym rfl (b true)<|yl rfl (b true) yq<|zN ?_
            refine yT ?_
            obtain ⟨r14, hf11, h22_⟩ := oS h22_
            obtain ⟨x15, hx12, h22_⟩ := oL h22_
            refine yW<|ym rfl (f32 y12)<|ym rfl (f32 ((mget L7 v4 v13).getD (some 0)))<|ym rfl (z024 L7 v8 v13)<|yd rfl (f32 r14) (yc ent86 rfl rfl (bP bN0) (K18_ok ((mget L7 v4 v13).getD (some 0)) ((mget L7 v8 v13).getD (some 0)) r14 hf11))<|yd rfl (f32 x15) (TOp.eqr (TOp.fop (.inr (.inl rfl)) rfl (OpF.tmp rfl) (OpF.tmp rfl)) (congrArg (f .f32) hx12))<|ya rfl (f32 x15)<|zN ?_
            exact ⟨x15, ⟨aR, aR, aR, aR, aR, aR, aR, aR, aR, aR, aR, aR, aR, aR, trivial⟩, ⟨dR, dR, dR, dR, dR, dR, dR, dR, trivial⟩, h22_⟩
           ·refine yW<|ym rfl (mref 4 1)<|ym rfl (i64 v8)<|ym rfl (i64 v13)<|yl rfl (agg [i64 v8, i64 v13]) (LOp.build (qs := [(0, [i64 v8]), (1, [i64 v13])]) zer101 zok101 und101 plc101 rfl ⟨rfl, ⟨_, ALe.refl _, rfl⟩, ⟨rfl, ⟨_, ALe.refl _, rfl⟩, trivial⟩⟩ rfl)<|yd rfl (z022 L7 v8 v13) (TOp.mgetok und98 pky101 zer26 zel26 rfl rfl rfl rfl rfl rfl)<|ym rfl (z022 L7 v8 v13)<|yl rfl (z024 L7 v8 v13) n3<|yl rfl (b false) (LOp.eqb n3 hc10)<|ya rfl (z024 L7 v8 v13)<|ya rfl (b false)<|zN ?_
            refine RunC.wl (τ' := [(1, fn (.func 118) [] [optr 0 0 0]), (2, ptr (z020 a0 a1 a2 a3)), (4, optr 2 1 0), (6, mref 3 1), (7, mref 4 1), (8, i64 v4), (9, i64 v8), (10, f32 y12), (12, f32 ((mget L7 v4 v13).getD (some 0))), (13, b true), (14, f32 ((mget L7 v8 v13).getD (some 0))), (15, b false), (20, i64 a0), (21, i64 v4), (25, i64 x5), (26, i64 v8), (39, i64 v8), (40, i64 v13)]) (Γ' := (z01z r10 r1 L7)) ⟨aR, aR, aR, aR, aR, aR, aR, aR, aR, aR, aR, aR, aR, aR, aR, aR, aR, aR, trivial⟩ ⟨dR, dR, dR, dR, dR, dR, dR, dR, trivial⟩<|zQ<|ym rfl (b true)<|ym rfl (b true)<|ym rfl (b false)<|yl rfl (b false) yq<|zN ?_
            refine yF<|RunC.skip ?_
            exact ⟨y12, ⟨aR, aR, aR, aR, aR, aR, aR, aR, aR, aR, aR, aR, aR, aR, trivial⟩, ⟨dR, dR, dR, dR, dR, dR, dR, dR, trivial⟩, h22_⟩
          ·refine yW<|ym rfl (mref 4 1)<|ym rfl (i64 v4)<|ym rfl (i64 v13)<|yl rfl (agg [i64 v4, i64 v13]) (LOp.build (qs := [(0, [i64 v4]), (1, [i64 v13])]) zer101 zok101 und101 plc101 rfl ⟨rfl, ⟨_, ALe.refl _, rfl⟩, ⟨rfl, ⟨_, ALe.refl _, rfl⟩, trivial⟩⟩ rfl)<|yd rfl (z025 L7 v4 v13) (TOp.mgetok und98 pky101 zer26 zel26 rfl rfl rfl rfl rfl rfl)<|ym rfl (z025 L7 v4 v13)<|yl rfl (f32 ((mget L7 v4 v13).getD (some 0))) n3<|yl rfl (b false) (LOp.eqb n3 hc9)<|ya rfl (f32 ((mget L7 v4 v13).getD (some 0)))<|ya rfl (b false)<|zN ?_
           refine yS ?_
           rcases oB h22_ with ⟨hc13, h22_⟩ | ⟨hc13, h22_⟩
           ·refine yW<|ym rfl (mref 4 1)<|ym rfl (i64 v8)<|ym rfl (i64 v13)<|yl rfl (agg [i64 v8, i64 v13]) (LOp.build (qs := [(0, [i64 v8]), (1, [i64 v13])]) zer101 zok101 und101 plc101 rfl ⟨rfl, ⟨_, ALe.refl _, rfl⟩, ⟨rfl, ⟨_, ALe.refl _, rfl⟩, trivial⟩⟩ rfl)<|yd rfl (z022 L7 v8 v13) (TOp.mgetok und98 pky101 zer26 zel26 rfl rfl rfl rfl rfl rfl)<|ym rfl (z022 L7 v8 v13)<|yl rfl (z024 L7 v8 v13) n3<|yl rfl (b true) (LOp.eqb n3 hc13)<|ya rfl (z024 L7 v8 v13)<|ya rfl (b true)<|zN ?_
            refine RunC.wl (τ' := [(1, fn (.func 118) [] [optr 0 0 0]), (2, ptr (z020 a0 a1 a2 a3)), (4, optr 2 1 0), (6, mref 3 1), (7, mref 4 1), (8, i64 v4), (9, i64 v8), (10, f32 y12), (12, f32 ((mget L7 v4 v13).getD (some 0))), (13, b false), (14, f32 ((mget L7 v8 v13).getD (some 0))), (15, b true), (20, i64 a0), (21, i64 v4), (25, i64 x5), (26, i64 v8), (39, i64 v8), (40, i64 v13)]) (Γ' := (z01z r10 r1 L7)) ⟨aR, aR, aR, aR, aR, aR, aR, aR, aR, aR, aR, aR, aR, aR, aR, aR, aR, aR, trivial⟩ ⟨dR, dR, dR, dR, dR, dR, dR, dR, trivial⟩<|zQ<|ym rfl (b false)<|ym rfl (b false)<|yR rfl<|yl rfl (b false) yp<|zN ?_
            refine yF<|RunC.skip ?_
            exact ⟨y12, ⟨aR, aR, aR, aR, aR, aR, aR, aR, aR, aR, aR, aR, aR, aR, trivial⟩, ⟨dR, dR, dR, dR, dR, dR, dR, dR, trivial⟩, h22_⟩
           ·refine yW<|ym rfl (mref 4 1)<|ym rfl (i64 v8)<|ym rfl (i64 v13)<|yl rfl (agg [i64 v8, i64 v13]) (LOp.build (qs := [(0, [i64 v8]), (1, [i64 v13])]) zer101 zok101 und101 plc101 rfl ⟨rfl, ⟨_, ALe.refl _, rfl⟩, ⟨rfl, ⟨_, ALe.refl _, rfl⟩, trivial⟩⟩ rfl)<|yd rfl (z022 L7 v8 v13) (TOp.mgetok und98 pky101 zer26 zel26 rfl rfl rfl rfl rfl rfl)<|ym rfl (z022 L7 v8 v13)<|yl rfl (z024 L7 v8 v13) n3<|yl rfl (b false) (LOp.eqb n3 hc13)<|ya rfl (z024 L7 v8 v13)<|ya rfl (b false)<|zN ?_
            refine RunC.wl (τ' := [(1, fn (.func 118) [] [optr 0 0 0]), (2, ptr (z020 a0 a1 a2 a3)), (4, optr 2 1 0), (6, mref 3 1), (7, mref 4 1), (8, i64 v4), (9, i64 v8), (10, f32 y12), (12, f32 ((mget L7 v4 v13).getD (some 0))), (13, b false), (14, f32 ((mget L7 v8 v13).getD (some 0))), (15, b false), (20, i64 a0), (21, i64 v4), (25, i64 x5), (26, i64 v8), (39, i64 v8), (40, i64 v13)]) (Γ' := (z01z r10 r1 L7)) ⟨aR, aR, aR, aR, aR, aR, aR, aR, aR, aR, aR, aR, aR, aR, aR, aR, aR, aR, trivial⟩ ⟨dR, dR, dR, dR, dR, dR, dR, dR, trivial⟩<|zQ<|ym rfl (b false)<|ym rfl (b false)<|yR rfl<|yl rfl (b false) yp<|zN ?_
            refine yF<|RunC.skip ?_
            exact ⟨y12, ⟨aR, aR, aR, aR, aR, aR, aR, aR, aR, aR, aR, aR, aR, aR, trivial⟩, ⟨dR, dR, dR, dR, dR, dR, dR, dR, trivial⟩, h22_⟩
         ·rintro τ23 Γ23 ⟨y16, hw23, hd23, h22_⟩
          refine RunC.wl hw23 hd23 ?_
          unfold K1e_k15 at h22_
          obtain ⟨x17, hx14, h22_⟩ := oL h22_
          refine yW<|yl rfl (i64 x17) (LOp.eqr (LOp.add rfl rfl rfl) (congrArg (ik .i64) hx14))<|ym rfl (i64 x17)<|zN ?_
          cases oI h22_
          exact ⟨_, rfl, ⟨aR, aR, aR, aR, aR, aR, aR, aR, aR, aR, aR, aR, aR, aR, trivial⟩, ⟨dR, dR, dR, dR, dR, dR, dR, dR, trivial⟩⟩
        ·refine yW<|yl rfl (b false) (LOp.eqb (LOp.lss rfl rfl rfl) hc8)<|zN ?_
         refine yS<|yF<|RunC.exit ?_
         cases oI h22_
         have hx := ho22 _ rfl
         exact ⟨y12, ⟨aR, aR, aR, aR, aR, aR, aR, aR, aR, aR, aR, aR, trivial⟩, ⟨dR, dR, dR, dR, dR, dR, dR, dR, trivial⟩, hx⟩
       ·rintro τ24 Γ24 ⟨y18, hw24, hd24, rfl⟩
        refine RunC.wl hw24 hd24 ?_
        replace h21_ : K1e_k16 v4 L7 v8 r10 y18 = some y21_ := h21_
        unfold K1e_k16 at h21_
        refine RunC.block<|yS ?_
        rcases oB h21_ with ⟨hc15, h21_⟩ | ⟨hc15, h21_⟩
        ·refine yW<|ym rfl (i64 v8)<|ym rfl (i64 v4)<|yl rfl (b true) (LOp.eqb (LOp.lss rfl rfl rfl) hc15)<|ya rfl (b true)<|zN ?_
         refine yT ?_
         obtain ⟨x19, hx16, h21_⟩ := oL h21_
         obtain ⟨x20, hx17, h21_⟩ := oL h21_
         obtain ⟨L21, hx18, h21_⟩ := oL h21_
         refine yW<|ym rfl (mref 4 1)<|ym rfl (i64 v4)<|ym rfl (i64 v8)<|yl rfl (agg [i64 v4, i64 v8]) (LOp.build (qs := [(0, [i64 v4]), (1, [i64 v8])]) zer101 zok101 und101 plc101 rfl ⟨rfl, ⟨_, ALe.refl _, rfl⟩, ⟨rfl, ⟨_, ALe.refl _, rfl⟩, trivial⟩⟩ rfl)<|ym rfl (f32 y18)<|ym rfl (mref 4 1)<|ym rfl (i64 v8)<|ym rfl (i64 v8)<|yl rfl (agg [i64 v8, i64 v8]) (LOp.build (qs := [(0, [i64 v8]), (1, [i64 v8])]) zer101 zok101 und101 plc101 rfl ⟨rfl, ⟨_, ALe.refl _, rfl⟩, ⟨rfl, ⟨_, ALe.refl _, rfl⟩, trivial⟩⟩ rfl)<|yd rfl (f32 x19) (TOp.eqr (TOp.mget und98 pky101 zer26 zel26 rfl rfl rfl rfl rfl) (congrArg f32 hx16))<|yd rfl (f32 x20) (TOp.eqr (TOp.fop (.inr (.inr (.inr rfl))) rfl (OpF.tmp rfl) (OpF.tmp rfl)) (congrArg (f .f32) hx17))<|ROps.mput (L' := L21) (Γ' := [⟨0, some [mref 1 0]⟩, ⟨0, some (mpc r10)⟩, z021, ⟨1, some (mpc r1)⟩, ⟨1, some (mpc L21)⟩, o0, o0, o0]) rfl und98 pky101 rfl rfl rfl rfl aR rfl hx18 rfl<|zN ?_
         exact ⟨L21, r10, ⟨aR, aR, aR, aR, aR, aR, aR, aR, aR, aR, trivial⟩, ⟨dR, dR, dR, dR, dR, dR, dR, dR, trivial⟩, h21_⟩
        ·refine yW<|ym rfl (i64 v8)<|ym rfl (i64 v4)<|yl rfl (b false) (LOp.eqb (LOp.lss rfl rfl rfl) hc15)<|ya rfl (b false)<|zN ?_
         refine yF<|yS ?_
         rcases oB h21_ with ⟨hc19, h21_⟩ | ⟨hc19, h21_⟩
         ·refine yW<|ym rfl (f32 y18)<|yl rfl (b true) (LOp.eqb (LOp.fgt rfl (OpF.tmp rfl) (OpF.const rfl (by kernel_rfl) (by kernel_rfl))) hc19)<|ya rfl (b true)<|zN ?_
          refine yT ?_
          obtain ⟨r22, hf20, h21_⟩ := oS h21_
          obtain ⟨L23, hx21, h21_⟩ := oL h21_
          refine yW<|ym rfl (mref 4 1)<|ym rfl (i64 v4)<|ym rfl (i64 v8)<|yl rfl (agg [i64 v4, i64 v8]) (LOp.build (qs := [(0, [i64 v4]), (1, [i64 v8])]) zer101 zok101 und101 plc101 rfl ⟨rfl, ⟨_, ALe.refl _, rfl⟩, ⟨rfl, ⟨_, ALe.refl _, rfl⟩, trivial⟩⟩ rfl)<|ym rfl (f32 y18)<|yd rfl (f32 r22) (yc ent154 rfl rfl bN0 (K1a_ok y18 r22 hf20))<|ROps.mput (L' := L23) (Γ' := [⟨0, some [mref 1 0]⟩, ⟨0, some (mpc r10)⟩, z021, ⟨1, some (mpc r1)⟩, ⟨1, some (mpc L23)⟩, o0, o0, o0]) rfl und98 pky101 rfl rfl rfl rfl aR rfl hx21 rfl<|zN ?_
          exact ⟨L23, r10, ⟨aR, aR, aR, aR, aR, aR, aR, aR, aR, aR, trivial⟩, ⟨dR, dR, dR, dR, dR, dR, dR, dR, trivial⟩, h21_⟩
         ·refine yW<|ym rfl (f32 y18)<|yl rfl (b false) (LOp.eqb (LOp.fgt rfl (OpF.tmp rfl) (OpF.const rfl (by kernel_rfl) (by kernel_rfl))) hc19)<|ya rfl (b false)<|zN ?_
          refine yF<|zQ<|yl rfl (agg [i64 0, nilsl, nilsl, nilsl]) (LOp.build (qs := []) zer30 zok30 und30 plc30 rfl trivial rfl)<|ys (agg [i64 0, nilsl, nilsl, nilsl]) [i64 0, nilsl, nilsl, nilsl] ((z01z r10 r1 L7)) siz30<|ya rfl (b false)<|zN ?_
          refine RunC.nil_cell (l' := [i64 0, oref 5 1 0 0, nilsl, nilsl]) (Γ' := [⟨0, some [mref 1 0]⟩, ⟨0, some (mpc r10)⟩, ⟨1, some [i64 0, oref 5 1 0 0, nilsl, nilsl]⟩, ⟨1, some (mpc r1)⟩, ⟨1, some (mpc L7)⟩, oJ 1 [], o0, o0]) 2 1 5 rfl rfl rfl rfl rfl<|RunC.nil_cell (l' := [i64 0, oref 5 1 0 0, oref 6 1 0 0, nilsl]) (Γ' := [⟨0, some [mref 1 0]⟩, ⟨0, some (mpc r10)⟩, ⟨1, some [i64 0, oref 5 1 0 0, oref 6 1 0 0, nilsl]⟩, ⟨1, some (mpc r1)⟩, ⟨1, some (mpc L7)⟩, oJ 1 [], oJ 1 [], o0]) 2 2 6 rfl rfl rfl rfl rfl<|RunC.nil_cell (l' := [i64 0, oref 5 1 0 0, oref 6 1 0 0, oref 7 1 0 0]) (Γ' := [⟨0, some [mref 1 0]⟩, ⟨0, some (mpc r10)⟩, ⟨1, some [i64 0, oref 5 1 0 0, oref 6 1 0 0, oref 7 1 0 0]⟩, ⟨1, some (mpc r1)⟩, ⟨1, some (mpc L7)⟩, oJ 1 [], oJ 1 [], oF 1 []]) 2 3 7 rfl rfl rfl rfl rfl<|RunC.ret ?_
          cases oI h21_
          have hx25_ := hr21 _ rfl
          subst hx25_
          cases oI h20_
          have hx26_ := hr20 _ rfl
          subst hx26_
          have hq := oI h
          obtain ⟨hq0, hq⟩ := Prod.mk.inj hq
          obtain ⟨hq1, hq⟩ := Prod.mk.inj hq
          obtain ⟨hq2, hq⟩ := Prod.mk.inj hq
          obtain ⟨hq3, hq⟩ := Prod.mk.inj hq
          obtain ⟨hq4, hq⟩ := Prod.mk.inj hq
          subst q0
          subst q1
          subst q2
          subst q3
          subst q4
          subst q5
          exact yB (tup [agg [i64 0, oref 5 1 0 (([] : List Int).length), oref 6 1 0 (([] : List Int).length), oref 7 1 0 (([] : List F).length)], b false]) [(0, 0), (1, 0), (5, 1), (6, 1), (7, 1)] (Res.eq (Res.two rfl (RV.cell agg30 siz30 rfl rfl rfl rfl) (RV.tmp rfl)) (by first | rfl | (rw [(show ([] : List Int).length = 0 from rfl), (show ([] : List F).length = 0 from rfl)] <;> rfl))) (SelL.cells rfl (by first | rfl | simp [ren, rens, sigma, rens_f32, rens_f64, rens_i64, rens_ik, rens_str, rens_cp, rens_mpc]) rfl (SelL.map rfl (SelL.arr0 (f := i64) (fun _ => rfl) rfl (SelL.arr0 (f := i64) (fun _ => rfl) rfl (sA rfl trivial)))))
     ·rintro τ27 Γ27 ⟨L24, L25, hw27, hd27, h21_⟩
      refine RunC.wl hw27 hd27 ?_
      unfold K1e_k17 at h21_
      obtain ⟨x26, hx22, h21_⟩ := oL h21_
      refine yW<|yl rfl (i64 x26) (LOp.eqr (LOp.add rfl rfl rfl) (congrArg (ik .i64) hx22))<|ym rfl (i64 x26)<|zN ?_
      cases oI h21_
      exact ⟨_, rfl, ⟨aR, aR, aR, aR, aR, aR, aR, aR, aR, aR, trivial⟩, ⟨dR, dR, dR, dR, dR, dR, dR, dR, trivial⟩⟩
    ·refine yW<|yl rfl (b false) (LOp.eqb (LOp.lss rfl rfl rfl) hc4)<|zN ?_
     refine yS<|yF<|RunC.exit ?_
     cases oI h21_
     have hx := ho21 _ rfl
     exact ⟨L6, L7, ⟨aR, aR, aR, aR, aR, aR, aR, trivial⟩, ⟨dR, dR, dR, dR, dR, dR, dR, dR, trivial⟩, hx⟩
   ·rintro τ28 Γ28 ⟨L27, L28, hw28, hd28, rfl⟩
    refine RunC.wl hw28 hd28 ?_
    replace h20_ : K1e_k18 v4 L27 L28 = some y20_ := h20_
    unfold K1e_k18 at h20_
    obtain ⟨x29, hx23, h20_⟩ := oL h20_
    refine yW<|yl rfl (i64 x29) (LOp.eqr (LOp.add rfl rfl rfl) (congrArg (ik .i64) hx23))<|ym rfl (i64 x29)<|zN ?_
    cases oI h20_
    exact ⟨_, rfl, ⟨aR, aR, aR, aR, aR, aR, aR, trivial⟩, ⟨dR, dR, dR, dR, dR, dR, dR, dR, trivial⟩⟩
  ·refine yW<|yl rfl (b false) (LOp.eqb (LOp.lss rfl rfl rfl) hc2)<|zN ?_
   refine yS<|yF<|RunC.exit ?_
   cases oI h20_
   have hx := ho20 _ rfl
   exact ⟨L2, L3, ⟨aR, aR, aR, trivial⟩, ⟨dR, dR, dR, dL, dR, dR, dR, dR, trivial⟩, hx⟩
 ·rintro τ29 Γ29 ⟨L30, L31, hw29, hd29, rfl⟩
  refine RunC.wl hw29 hd29 ?_
  replace h : K1e_k19 a0 L30 L31 = some (q0, q1, q2, q3, q4, q5) := h
  unfold K1e_k19 at h
  refine yS ?_
  obtain ⟨r32, r33, r34, r35, r36, r37, hf24, h⟩ := obind6_some h
  refine yW<|yl rfl (ptr (z020 a0 a1 a2 a3)) (LOp.fap und30 rfl siz2 rfl rfl rfl)<|yl rfl (i64 a0) (n2 agg2)<|ym rfl (mref 4 1)<|ROps.callO (A := [i64 a0, mref 4 1]) (args := [i64 a0, mref 0 0]) (Γc := [⟨0, some (mpc L31)⟩]) (Γc' := [⟨0, some (mpc r34)⟩, oJ 0 r35, oJ 0 r36, oF 0 r37]) (r' := tup [agg (z023 r32 r35 r36 r37), b r33]) (Γ' := [⟨0, some [mref 1 0]⟩, ⟨0, some (mpc L30)⟩, z021, oJ 2 r35, ⟨1, some (mpc r34)⟩, oJ 1 r36, oF 1 r37, o0]) [(4, 1)] [(3, 2), (5, 1), (6, 1)] rfl (CallAs.func ent100 rfl rfl) rfl rfl (SelOk.of (show List.Nodup [4] from by decide) (SelL.map0 rfl trivial)) (live_of ⟨⟨_, _, rfl⟩, trivial⟩) (by simp [ren, rens, sigma, rens_f32, rens_f64, rens_i64, rens_ik, rens_str, rens_cp, rens_mpc]) rfl (K10_ok a0 L31 r32 r33 r34 r35 r36 r37 hf24) rfl (news_of ⟨⟨_, rfl, rfl⟩, ⟨_, rfl, rfl⟩, ⟨_, rfl, rfl⟩, trivial⟩) (show List.Nodup [4, 3, 5, 6] from by decide) (by simp [ren, rens, sigma]) (by simp [backOb, sigma, ren, rens, rens_f32, rens_f64, rens_i64, rens_ik, rens_str, rens_cp, rens_mpc] <;> omega)<|yl rfl (agg (z023 r32 r35 r36 r37)) n3<|yl rfl (b r33) n3<|ys (agg (z023 r32 r35 r36 r37)) (z023 r32 r35 r36 r37) ([⟨0, some [mref 1 0]⟩, ⟨0, some (mpc L30)⟩, ⟨1, some (z023 r32 r35 r36 r37)⟩, oJ 2 r35, ⟨1, some (mpc r34)⟩, oJ 1 r36, oF 1 r37, o0]) siz30<|ya rfl (b r33)<|zN ?_
  refine RunC.ret ?_
  have hq := oI h
  obtain ⟨hq0, hq⟩ := Prod.mk.inj hq
  obtain ⟨hq1, hq⟩ := Prod.mk.inj hq
  obtain ⟨hq2, hq⟩ := Prod.mk.inj hq
  obtain ⟨hq3, hq⟩ := Prod.mk.inj hq
  obtain ⟨hq4, hq⟩ := Prod.mk.inj hq
  subst q0
  subst q1
  subst q2
  subst q3
  subst q4
  subst q5
  exact yB (tup [agg (z023 r32 r35 r36 r37), b r33]) [(0, 0), (1, 0), (3, 2), (5, 1), (6, 1)] (Res.two rfl (RV.cell agg30 siz30 rfl rfl rfl rfl) (RV.tmp rfl)) (SelL.cells rfl (by first | rfl | simp [ren, rens, sigma, rens_f32, rens_f64, rens_i64, rens_ik, rens_str, rens_cp, rens_mpc]) rfl (SelL.map rfl (SelL.arr0 (f := i64) (fun _ => rfl) rfl (SelL.arr0 (f := i64) (fun _ => rfl) rfl (sA rfl trivial)))))

def K1f_b1 (a0 : Int) (r2 : List (Int × Int × F)) (v3 : Int) : Option (LR (Int) (Unit) (Int × Bool × (List Int) × (List Int) × (List F))) :=
 bsel (decide (v3 < a0)) (
  bsel ((mget r2 v3 v3).isSome) (
   olet (IntKind.i64.wrap (v3 + 1)) fun (x4 : Int) =>
   some (LR.next x4)) (
   some (LR.ret (0, false, ([] : List Int), ([] : List Int), ([] : List F))))) (
  some (LR.out ()))
def K1f_s1 (a0 : Int) (r2 : List (Int × Int × F)) : (Int) → Option (LR (Int) (Unit) (Int × Bool × (List Int) × (List Int) × (List F))) := fun s => K1f_b1 a0 r2 s
def K1f_k1 (a0 : Int) (a1 : List Int) (a2 : List Int) (a3 : List F) (r2 : List (Int × Int × F)) : Option (Int × Bool × (List Int) × (List Int) × (List F)) :=
 obind6 (K1e a0 a1 a2 a3 r2) fun (r5 : Int) (r6 : Bool) (r7 : List (Int × Int × F)) (r8 : List Int) (r9 : List Int) (r10 : List F) =>
 some (r5, r6, r8, r9, r10)
def K1f (a0 : Int) (a1 : List Int) (a2 : List Int) (a3 : List F) : Option (Int × Bool × (List Int) × (List Int) × (List F)) :=
 obind (K0w a0 a1 a2 a3) fun (r1 : Bool) =>
 bsel r1 (
  obind (K0z a0 a1 a2 a3) fun (r2 : List (Int × Int × F)) =>
  obind (loopM (K1f_s1 a0 r2) 0) fun z => osum z (fun e => K1f_k1 a0 a1 a2 a3 r2) (fun r => some r)) (
  some (0, false, ([] : List Int), ([] : List Int), ([] : List F)))
abbrev z026 (a0 : Int) (a1 : List Int) (a2 : List Int) (a3 : List F) : List AV := [i64 a0, sl a1.length (a1.map i64), sl a2.length (a2.map i64), (sFc a3)]
abbrev z027 (r2 : List (Int × Int × F)) : List Ob := [⟨1, some [i64 0, nilsl, nilsl, nilsl]⟩, ⟨1, some (mpc r2)⟩, ⟨1, some [mref 1 1]⟩, o0, o0, o0]
abbrev z028 : List AV := [i64 0, nilsl, nilsl, nilsl]
abbrev z029 (r5 : Int) (r8 : List Int) (r9 : List Int) (r10 : List F) : List AV := [i64 r5, oref 3 1 0 r8.length, oref 4 1 0 r9.length, oref 5 1 0 r10.length]
abbrev z02a (r2 : List (Int × Int × F)) (v3 : Int) : AV := tup [f32 ((mget r2 v3 v3).getD (some 0)), b ((mget r2 v3 v3).isSome)]
theorem K1f_ok (a0 : Int) (a1 : List Int) (a2 : List Int) (a3 : List F) (q0 : Int) (q1 : Bool) (q2 : List Int) (q3 : List Int) (q4 : List F) (h : K1f a0 a1 a2 a3 = some (q0, q1, q2, q3, q4)) : Ev Try.prog 42 [agg [i64 a0, sl a1.length (a1.map i64), sl a2.length (a2.map i64), (sFc a3)]] [] (tup [agg [i64 q0, oref 0 0 0 q2.length, oref 1 0 0 q3.length, oref 2 0 0 q4.length], b q1]) [oJ 0 q2, oJ 0 q3, oF 0 q4] := by
 refine yE Try.func42 6 73 0 ([(0, agg (z026 a0 a1 a2 a3))]) [o0, o0, o0, o0, o0, o0] rfl ?_
 unfold K1f at h
 refine zQ<|yd rfl (ptr (z026 a0 a1 a2 a3)) (TOp.box_s rfl rfl rfl)<|ye rfl (optr 0 1 0) ([⟨1, some z028⟩, o0, o0, o0, o0, o0]) (TOp.alloc_o (g := o0) 0 rfl zer30 zok30 rfl)<|ya rfl (b false)<|zN ?_
 refine yS<|yS ?_
 obtain ⟨r1, hf1, h⟩ := oS h
 rcases oB h with ⟨hc2, h⟩ | ⟨hc2, h⟩
 ·refine yW<|yl rfl (agg (z026 a0 a1 a2 a3)) (yL agg30 siz30)<|yd rfl (b true) (TOp.eqb (TOp.callB (CallAs.func ent30 rfl rfl) (Bors.cons (Bor.agg (bP (bS (bS (bS bN))))) bN) rfl rfl (K0w_ok a0 a1 a2 a3 r1 hf1)) hc2)<|yl rfl (b false) n1<|zN ?_
  refine yF<|RunC.skip<|yS ?_
  obtain ⟨r2, hf3, h⟩ := oS h
  refine yW<|yl rfl (agg (z026 a0 a1 a2 a3)) (yL agg30 siz30)<|ye rfl (mref 1 1) ([⟨1, some z028⟩, ⟨1, some (mpc r2)⟩, o0, o0, o0, o0]) (TOp.callBN (ls := [(mpc r2)]) [1] (CallAs.func ent83 rfl rfl) (Bors.cons (Bor.agg (bP (bS (bS (bS bN))))) bN) rfl (K0z_ok a0 a1 a2 a3 r2 hf3) (and_all (lt_mpc 0 _) rfl) (and_all (noss_mpc _) rfl) rfl (by decide) (ns_of ⟨⟨_, rfl⟩, trivial⟩))<|ye rfl (optr 2 1 0) ([⟨1, some z028⟩, ⟨1, some (mpc r2)⟩, ⟨1, some [x (.map none)]⟩, o0, o0, o0]) (TOp.alloc_o (g := o0) 2 rfl zer98 zok98 rfl)<|ys (mref 1 1) [mref 1 1] ((z027 r2)) siz98<|zN ?_
  refine yS<|zQ<|yl rfl (ptr (z026 a0 a1 a2 a3)) (LOp.fap und30 rfl siz2 rfl rfl rfl)<|yl rfl (i64 a0) (n2 agg2)<|ym rfl (i64 0)<|zN ?_
  obtain ⟨z2, hz_2, h⟩ := oS h
  refine RunC.cutN (fun τ Γ => WeakLe τ [(1, ptr (z026 a0 a1 a2 a3)), (2, optr 0 1 0), (4, optr 2 1 0)] ∧ DeadLe Γ (z027 r2) ∧ z2 = .inl ()) ?_ ?_
  ·refine RunC.block (RunC.loop (RunL.loopM (x := z2) (K1f_s1 a0 r2) (fun (s : Int) τ Γ => WeakLe τ [(1, ptr (z026 a0 a1 a2 a3)), (2, optr 0 1 0), (4, optr 2 1 0), (15, i64 a0), (16, i64 s)] ∧ DeadLe Γ (z027 r2)) ?_ _ _ _ hz_2 ⟨⟨aR, aR, aR, aR, aR, trivial⟩, ⟨dR, dR, dR, dR, dR, dR, trivial⟩⟩))
   rintro v3 τ2 Γ2 y2_ ⟨hw2, hd2⟩ h2_ ho2 hr2
   refine RunC.wl (τ' := [(1, ptr (z026 a0 a1 a2 a3)), (2, optr 0 1 0), (4, optr 2 1 0), (15, i64 a0), (16, i64 v3)]) (Γ' := (z027 r2)) hw2 hd2 ?_
   replace h2_ : K1f_b1 a0 r2 v3 = some y2_ := h2_
   unfold K1f_b1 at h2_
   refine yS ?_
   rcases oB h2_ with ⟨hc4, h2_⟩ | ⟨hc4, h2_⟩
   ·refine yW<|yl rfl (b true) (LOp.eqb (LOp.lss rfl rfl rfl) hc4)<|zN ?_
    refine yS<|yT<|RunC.skip<|yS<|RunC.block<|zQ<|ym rfl (i64 v3)<|ya rfl (i64 v3)<|zN ?_
    refine yS ?_
    rcases oB h2_ with ⟨hc5, h2_⟩ | ⟨hc5, h2_⟩
    ·refine yW<|yd rfl (mref 1 1) (TOp.load1_o rfl rfl agg98 rfl rfl)<|ym rfl (i64 v3)<|ym rfl (i64 v3)<|yl rfl (agg [i64 v3, i64 v3]) (LOp.build (qs := [(0, [i64 v3]), (1, [i64 v3])]) zer101 zok101 und101 plc101 rfl ⟨rfl, ⟨_, ALe.refl _, rfl⟩, ⟨rfl, ⟨_, ALe.refl _, rfl⟩, trivial⟩⟩ rfl)<|yd rfl (z02a r2 v3) (TOp.mgetok und98 pky101 zer26 zel26 rfl rfl rfl rfl rfl rfl)<|ym rfl (z02a r2 v3)<|yl rfl (f32 ((mget r2 v3 v3).getD (some 0))) n3<|yl rfl (b true) (LOp.eqb n3 hc5)<|ya rfl (f32 ((mget r2 v3 v3).getD (some 0)))<|ya rfl (b true)<|zN ?_
     refine zQ<|ym rfl (b true)<|yl rfl (b false) n1<|zN ?_
     refine RunC.wl (τ' := [(1, ptr (z026 a0 a1 a2 a3)), (2, optr 0 1 0), (4, optr 2 1 0), (15, i64 a0), (16, i64 v3), (28, b false)]) (Γ' := (z027 r2)) ⟨aR, aR, aR, aR, aR, aR, trivial⟩ ⟨dR, dR, dR, dR, dR, dR, trivial⟩<|yF<|RunC.skip ?_
     obtain ⟨x4, hx6, h2_⟩ := oL h2_
     refine yW<|yl rfl (i64 x4) (LOp.eqr (LOp.add rfl rfl rfl) (congrArg (ik .i64) hx6))<|ym rfl (i64 x4)<|zN ?_
     cases oI h2_
     exact ⟨_, rfl, ⟨aR, aR, aR, aR, aR, trivial⟩, ⟨dR, dR, dR, dR, dR, dR, trivial⟩⟩
    ·refine yW<|yd rfl (mref 1 1) (TOp.load1_o rfl rfl agg98 rfl rfl)<|ym rfl (i64 v3)<|ym rfl (i64 v3)<|yl rfl (agg [i64 v3, i64 v3]) (LOp.build (qs := [(0, [i64 v3]), (1, [i64 v3])]) zer101 zok101 und101 plc101 rfl ⟨rfl, ⟨_, ALe.refl _, rfl⟩, ⟨rfl, ⟨_, ALe.refl _, rfl⟩, trivial⟩⟩ rfl)<|yd rfl (z02a r2 v3) (TOp.mgetok und98 pky101 zer26 zel26 rfl rfl rfl rfl rfl rfl)<|ym rfl (z02a r2 v3)<|yl rfl (f32 ((mget r2 v3 v3).getD (some 0))) n3<|yl rfl (b false) (LOp.eqb n3 hc5)<|ya rfl (f32 ((mget r2 v3 v3).getD (some 0)))<|ya rfl (b false)<|zN ?_
     refine zQ<|ym rfl (b false)<|yl rfl (b true) n0<|zN ?_
     refine RunC.wl (τ' := [(1, ptr (z026 a0 a1 a2 a3)), (2, optr 0 1 0), (4, optr 2 1 0), (15, i64 a0), (16, i64 v3), (28, b true)]) (Γ' := (z027 r2)) ⟨aR, aR, aR, aR, aR, aR, trivial⟩ ⟨dR, dR, dR, dR, dR, dR, trivial⟩<|yT<|zQ<|yl rfl (agg z028) (LOp.build (qs := []) zer30 zok30 und30 plc30 rfl trivial rfl)<|ys (agg z028) z028 ((z027 r2)) siz30<|ya rfl (b false)<|zN ?_
     refine RunC.nil_cell (l' := [i64 0, oref 3 1 0 0, nilsl, nilsl]) (Γ' := [⟨1, some [i64 0, oref 3 1 0 0, nilsl, nilsl]⟩, ⟨1, some (mpc r2)⟩, ⟨1, some [mref 1 1]⟩, oJ 1 [], o0, o0]) 0 1 3 rfl rfl rfl rfl rfl<|RunC.nil_cell (l' := [i64 0, oref 3 1 0 0, oref 4 1 0 0, nilsl]) (Γ' := [⟨1, some [i64 0, oref 3 1 0 0, oref 4 1 0 0, nilsl]⟩, ⟨1, some (mpc r2)⟩, ⟨1, some [mref 1 1]⟩, oJ 1 [], oJ 1 [], o0]) 0 2 4 rfl rfl rfl rfl rfl<|RunC.nil_cell (l' := [i64 0, oref 3 1 0 0, oref 4 1 0 0, oref 5 1 0 0]) (Γ' := [⟨1, some [i64 0, oref 3 1 0 0, oref 4 1 0 0, oref 5 1 0 0]⟩, ⟨1, some (mpc r2)⟩, ⟨1, some [mref 1 1]⟩, oJ 1 [], oJ 1 [], oF 1 []]) 0 3 5 rfl rfl rfl rfl rfl<|RunC.ret ?_
     cases oI h2_
     have hx3_ := hr2 _ rfl
     subst hx3_
     have hq := oI h
     obtain ⟨hq0, hq⟩ := Prod.mk.inj hq
     obtain ⟨hq1, hq⟩ := Prod.mk.inj hq
     obtain ⟨hq2, hq⟩ := Prod.mk.inj hq
     obtain ⟨hq3, hq⟩ := Prod.mk.inj hq
     subst q0
     subst q1
     subst q2
     subst q3
     subst q4
     exact yB (tup [agg [i64 0, oref 3 1 0 (([] : List Int).length), oref 4 1 0 (([] : List Int).length), oref 5 1 0 (([] : List F).length)], b false]) [(3, 1), (4, 1), (5, 1)] (Res.eq (Res.two rfl (RV.cell agg30 siz30 rfl rfl rfl rfl) (RV.tmp rfl)) (by first | rfl | (rw [(show ([] : List Int).length = 0 from rfl), (show ([] : List F).length = 0 from rfl)] <;> rfl))) (SelL.arr0 (f := i64) (fun _ => rfl) rfl (SelL.arr0 (f := i64) (fun _ => rfl) rfl (sA rfl trivial)))
   ·refine yW<|yl rfl (b false) (LOp.eqb (LOp.lss rfl rfl rfl) hc4)<|zN ?_
    refine yS<|yF<|RunC.exit ?_
    cases oI h2_
    have hx := ho2 _ rfl
    exact ⟨⟨aR, aR, aR, trivial⟩, ⟨dR, dR, dR, dR, dR, dR, trivial⟩, hx⟩
  ·rintro τ4 Γ4 ⟨hw4, hd4, rfl⟩
   refine RunC.wl hw4 hd4 ?_
   replace h : K1f_k1 a0 a1 a2 a3 r2 = some (q0, q1, q2, q3, q4) := h
   unfold K1f_k1 at h
   refine yS ?_
   obtain ⟨r5, r6, r7, r8, r9, r10, hf7, h⟩ := obind6_some h
   refine yW<|yl rfl (agg (z026 a0 a1 a2 a3)) (yL agg30 siz30)<|yl rfl (fn (.func 118) [] [optr 2 1 0]) (LOp.makeFunc rfl rfl)<|ROps.callO (A := [agg (z026 a0 a1 a2 a3), fn (.func 118) [] [optr 2 1 0]]) (args := [agg (z026 a0 a1 a2 a3), fn (.func 118) [] [optr 0 0 0]]) (Γc := [⟨0, some [mref 1 0]⟩, ⟨0, some (mpc r2)⟩]) (Γc' := [⟨0, some [mref 1 0]⟩, ⟨0, some (mpc r7)⟩, oJ 0 r8, oJ 0 r9, oF 0 r10]) (r' := tup [agg (z029 r5 r8 r9 r10), b r6]) (Γ' := [⟨1, some z028⟩, ⟨1, some (mpc r7)⟩, ⟨1, some [mref 1 1]⟩, oJ 1 r8, oJ 1 r9, oF 1 r10]) [(2, 1), (1, 1)] [(3, 1), (4, 1), (5, 1)] rfl (CallAs.func ent116 rfl rfl) rfl rfl (SelOk.of (show List.Nodup [2, 1] from by decide) (SelL.cells0 rfl (by simp [ren, rens, sigma, rens_f32, rens_f64, rens_i64, rens_ik, rens_str, rens_cp, rens_mpc]) rfl (SelL.map0 rfl trivial))) (live_of ⟨⟨_, _, rfl⟩, ⟨_, _, rfl⟩, trivial⟩) (by simp [ren, rens, sigma, rens_f32, rens_f64, rens_i64, rens_ik, rens_str, rens_cp, rens_mpc]) (lts_cons (lt_agg (lts_cons rfl (lts_cons (lt_slk (fun _ => rfl)) (lts_cons (lt_slk (fun _ => rfl)) (lts_cons (lt_slk (fun _ => rfl)) lts_nil))))) (lts_cons rfl lts_nil)) (K1e_ok a0 a1 a2 a3 r2 r5 r6 r7 r8 r9 r10 hf7) rfl (news_of ⟨⟨_, rfl, rfl⟩, ⟨_, rfl, rfl⟩, ⟨_, rfl, rfl⟩, trivial⟩) (show List.Nodup [2, 1, 3, 4, 5] from by decide) (by simp [ren, rens, sigma]) (by simp [backOb, sigma, ren, rens, rens_f32, rens_f64, rens_i64, rens_ik, rens_str, rens_cp, rens_mpc] <;> omega)<|yl rfl (agg (z029 r5 r8 r9 r10)) n3<|yl rfl (b r6) n3<|ys (agg (z029 r5 r8 r9 r10)) (z029 r5 r8 r9 r10) ([⟨1, some (z029 r5 r8 r9 r10)⟩, ⟨1, some (mpc r7)⟩, ⟨1, some [mref 1 1]⟩, oJ 1 r8, oJ 1 r9, oF 1 r10]) siz30<|ya rfl (b r6)<|zN ?_
   refine RunC.ret ?_
   have hq := oI h
   obtain ⟨hq0, hq⟩ := Prod.mk.inj hq
   obtain ⟨hq1, hq⟩ := Prod.mk.inj hq
   obtain ⟨hq2, hq⟩ := Prod.mk.inj hq
   obtain ⟨hq3, hq⟩ := Prod.mk.inj hq
   subst q0
   subst q1
   subst q2
   subst q3
   subst q4
   exact yB (tup [agg (z029 r5 r8 r9 r10), b r6]) [(3, 1), (4, 1), (5, 1)] (Res.two rfl (RV.cell agg30 siz30 rfl rfl rfl rfl) (RV.tmp rfl)) (SelL.arr0 (f := i64) (fun _ => rfl) rfl (SelL.arr0 (f := i64) (fun _ => rfl) rfl (sA rfl trivial)))
 ·refine yW<|yl rfl (agg (z026 a0 a1 a2 a3)) (yL agg30 siz30)<|yd rfl (b false) (TOp.eqb (TOp.callB (CallAs.func ent30 rfl rfl) (Bors.cons (Bor.agg (bP (bS (bS (bS bN))))) bN) rfl rfl (K0w_ok a0 a1 a2 a3 r1 hf1)) hc2)<|yl rfl (b true) n0<|zN ?_
  refine yT<|zQ<|yl rfl (agg z028) (LOp.build (qs := []) zer30 zok30 und30 plc30 rfl trivial rfl)<|ys (agg z028) z028 ([⟨1, some z028⟩, o0, o0, o0, o0, o0]) siz30<|ya rfl (b false)<|zN ?_
  refine RunC.nil_cell (l' := [i64 0, oref 1 1 0 0, nilsl, nilsl]) (Γ' := [⟨1, some [i64 0, oref 1 1 0 0, nilsl, nilsl]⟩, oJ 1 [], o0, o0, o0, o0]) 0 1 1 rfl rfl rfl rfl rfl<|RunC.nil_cell (l' := [i64 0, oref 1 1 0 0, oref 2 1 0 0, nilsl]) (Γ' := [⟨1, some [i64 0, oref 1 1 0 0, oref 2 1 0 0, nilsl]⟩, oJ 1 [], oJ 1 [], o0, o0, o0]) 0 2 2 rfl rfl rfl rfl rfl<|RunC.nil_cell (l' := [i64 0, oref 1 1 0 0, oref 2 1 0 0, oref 3 1 0 0]) (Γ' := [⟨1, some [i64 0, oref 1 1 0 0, oref 2 1 0 0, oref 3 1 0 0]⟩, oJ 1 [], oJ 1 [], oF 1 [], o0, o0]) 0 3 3 rfl rfl rfl rfl rfl<|RunC.ret ?_
  have hq := oI h
  obtain ⟨hq0, hq⟩ := Prod.mk.inj hq
  obtain ⟨hq1, hq⟩ := Prod.mk.inj hq
  obtain ⟨hq2, hq⟩ := Prod.mk.inj hq
  obtain ⟨hq3, hq⟩ := Prod.mk.inj hq
  subst q0
  subst q1
  subst q2
  subst q3
  subst q4
  exact yB (tup [agg [i64 0, oref 1 1 0 (([] : List Int).length), oref 2 1 0 (([] : List Int).length), oref 3 1 0 (([] : List F).length)], b false]) [(1, 1), (2, 1), (3, 1)] (Res.eq (Res.two rfl (RV.cell agg30 siz30 rfl rfl rfl rfl) (RV.tmp rfl)) (by first | rfl | (rw [(show ([] : List Int).length = 0 from rfl), (show ([] : List F).length = 0 from rfl)] <;> rfl))) (SelL.arr0 (f := i64) (fun _ => rfl) rfl (SelL.arr0 (f := i64) (fun _ => rfl) rfl (sA rfl trivial)))

def K1g (a0 : Int) : Option (Int) :=
 obind (K14 a0) fun (r1 : List Int) =>
 obind (K0e r1) fun (r2 : Int) =>
 some r2
theorem K1g_ok (a0 : Int) (q0 : Int) (h : K1g a0 = some q0) : Ev Try.prog 119 [ik .u64 a0] [] (i64 q0) [] := by
 refine yE Try.func119 1 13 0 [(0, ik .u64 a0)] [o0] rfl ?_
 unfold K1g at h
 refine zQ<|ya rfl (i64 0)<|zN ?_
 refine yS ?_
 obtain ⟨r1, hf1, h⟩ := oS h
 obtain ⟨r2, hf2, h⟩ := oS h
 refine yW<|ym rfl (ik .u64 a0)<|ye rfl (oref 0 1 0 r1.length) [oJ 1 r1] (TOp.callBN (ls := [(r1.map i64)]) [0] (CallAs.func ent188 rfl rfl) bN0 rfl (K14_ok a0 r1 hf1) (and_all (lts0_map (f := i64) (fun _ => rfl) _) rfl) (and_all (noss_map (f := i64) (fun _ => rfl) _) rfl) rfl (by decide) (ns_of ⟨⟨_, rfl⟩, trivial⟩))<|yd rfl (i64 r2) (yc ent104 rfl rfl (Bors.cons (Bor.own (f := i64) (fun _ => rfl) rfl rfl) bN) (K0e_ok r1 r2 hf2))<|ya rfl (i64 r2)<|zN ?_
 refine RunC.ret ?_
 have hq := oI h
 subst q0
 exact bR rfl

def K1h_b1 (r4 : List Int) (L7 : List Int) (v8 : Int) (v9 : Int) : Option (LR ((List Int) × Int × Int) ((List Int) × Int) (Int × Bool × (List Int))) :=
 bsel (decide (v9 < ((r4.length : Nat) : Int))) (
  obind (at? r4 v9) fun (e10 : Int) =>
  obind (K1g e10) fun (r11 : Int) =>
  olet (IntKind.i64.wrap (r11 + 1)) fun (x12 : Int) =>
  need (apok 8 L7.length 1) <|
  obind (K1g e10) fun (r13 : Int) =>
  olet (IntKind.i64.wrap (r13 + 1)) fun (x14 : Int) =>
  olet (IntKind.i64.wrap (v8 + x14)) fun (x15 : Int) =>
  olet (IntKind.i64.wrap (v9 + 1)) fun (x16 : Int) =>
  some (LR.next ((L7 ++ ([x12] : List Int)), x15, x16))) (
  some (LR.out (L7, v8)))
def K1h_s1 (r4 : List Int) : ((List Int) × Int × Int) → Option (LR ((List Int) × Int × Int) ((List Int) × Int) (Int × Bool × (List Int))) := fun s => K1h_b1 r4 s.1 s.2.1 s.2.2
def K1h_k1 (L19 : List Int) (v20 : Int) : Option (Int × Bool × (List Int)) :=
 some (v20, true, L19)
def K1h (a0 : Int) (a1 : List Int) (a2 : List Int) (a3 : List F) : Option (Int × Bool × (List Int)) :=
 obind (K0w a0 a1 a2 a3) fun (r1 : Bool) =>
 bsel r1 (
  obind (K12 a0 a1 a2 a3) fun (r2 : List Int) =>
  obind2 (K16 r2) fun (r3 : List Int) (r4 : List Int) =>
  need (decide (r3.length = r2.length)) <|
  obind (loopM (K1h_s1 r4) (([] : List Int), 0, 0)) fun z => osum z (fun e => K1h_k1 e.1 e.2) (fun r => some r)) (
  some (0, false, ([] : List Int)))
abbrev z02b (a0 : Int) (a1 : List Int) (a2 : List Int) (a3 : List F) : List AV := [i64 a0, sl a1.length (a1.map i64), sl a2.length (a2.map i64), (sFc a3)]
abbrev z02c (r4 : List Int) : Ob := ⟨1, some (r4.map (ik .u64))⟩
theorem K1h_ok (a0 : Int) (a1 : List Int) (a2 : List Int) (a3 : List F) (q0 : Int) (q1 : Bool) (q2 : List Int) (h : K1h a0 a1 a2 a3 = some (q0, q1, q2)) : Ev Try.prog 43 [agg [i64 a0, sl a1.length (a1.map i64), sl a2.length (a2.map i64), (sFc a3)]] [] (tup [oref 0 0 0 q2.length, i64 q0, b q1]) [oJ 0 q2] := by
 refine yE Try.func43 3 71 0 ([(0, agg (z02b a0 a1 a2 a3))]) [o0, o0, o0] rfl ?_
 unfold K1h at h
 refine zQ<|yd rfl (ptr (z02b a0 a1 a2 a3)) (TOp.box_s rfl rfl rfl)<|ya rfl nilsl<|ya rfl (i64 0)<|ya rfl (b false)<|zN ?_
 refine yS<|yS ?_
 obtain ⟨r1, hf1, h⟩ := oS h
 rcases oB h with ⟨hc2, h⟩ | ⟨hc2, h⟩
 ·refine yW<|yl rfl (agg (z02b a0 a1 a2 a3)) (yL agg30 siz30)<|yd rfl (b true) (TOp.eqb (TOp.callB (CallAs.func ent30 rfl rfl) (Bors.cons (Bor.agg (bP (bS (bS (bS bN))))) bN) rfl rfl (K0w_ok a0 a1 a2 a3 r1 hf1)) hc2)<|yl rfl (b false) n1<|zN ?_
  refine yF<|RunC.skip<|zQ<|ye rfl (oref 0 1 0 0) ([oJ 1 [], o0, o0]) (TOp.buildSlice_o (g := o0) (za := i64 0) (qs := []) 0 rfl und22 siz2 zer2 rfl zel2 rfl rfl trivial rfl)<|ya rfl (oref 0 1 0 0)<|ya rfl (i64 0)<|zN ?_
  refine yS<|yS ?_
  obtain ⟨r2, hf3, h⟩ := oS h
  obtain ⟨r3, r4, hf4, h⟩ := obind2_some h
  obtain ⟨hn5, h⟩ := need_some h
  refine yW<|yl rfl (agg (z02b a0 a1 a2 a3)) (yL agg30 siz30)<|ye rfl (oref 1 1 0 r2.length) ([oJ 1 [], ⟨1, some (r2.map (ik .u64))⟩, o0]) (TOp.callBN (ls := [(r2.map (ik .u64))]) [1] (CallAs.func ent114 rfl rfl) (Bors.cons (Bor.agg (bP (bS (bS (bS bN))))) bN) rfl (K12_ok a0 a1 a2 a3 r2 hf3) (and_all (lts0_map (f := (ik .u64)) (fun _ => rfl) _) rfl) (and_all (noss_map (f := (ik .u64)) (fun _ => rfl) _) rfl) rfl (by decide) (ns_of ⟨⟨_, rfl⟩, trivial⟩))<|ROps.callO (A := [oref 1 1 0 r2.length]) (args := [oref 0 0 0 r2.length]) (Γc := [⟨0, some (r2.map (ik .u64))⟩]) (Γc' := [⟨0, some (r3.map (ik .u64))⟩, ⟨0, some (r4.map (ik .u64))⟩]) (r' := oref 2 1 0 r4.length) (Γ' := [oJ 1 [], ⟨1, some (r3.map (ik .u64))⟩, (z02c r4)]) [(1, 1)] [(2, 1)] rfl (CallAs.func ent115 rfl rfl) rfl rfl (SelOk.of (ndB_ok rfl) (SelL.arr0 (f := (ik .u64)) (fun _ => rfl) rfl trivial)) (live_of ⟨⟨_, _, rfl⟩, trivial⟩) (by simp [ren, rens, sigma, rens_f32, rens_f64, rens_i64, rens_ik, rens_str, rens_cp]) rfl (K16_ok r2 r3 r4 hf4) rfl (news_of ⟨⟨_, rfl, rfl⟩, trivial⟩) (show List.Nodup [1, 2] from by decide) (by simp [ren, rens, sigma, of_decide_eq_true hn5]) (by simp [backOb, sigma, ren, rens, rens_f32, rens_f64, rens_i64, rens_ik, rens_str, rens_cp] <;> omega)<|yl rfl (i64 ((r4.length : Nat) : Int)) (LOp.len_oref und123 rfl rfl)<|ym rfl (i64 0)<|zN ?_
  refine RunC.wl (τ' := [(5, oref 0 1 0 0), (6, i64 0), (15, oref 2 1 0 r4.length), (16, i64 ((r4.length : Nat) : Int)), (17, i64 0)]) (Γ' := [oJ 1 [], ⟨1, none⟩, (z02c r4)]) ⟨aR, aR, aR, aR, aR, trivial⟩ ⟨dR, dL, dR, trivial⟩ ?_
  obtain ⟨z2, hz_2, h⟩ := oS h
  refine RunC.cutN (fun τ Γ => ∃ (L19 : List Int) (v20 : Int) (u17 : Nat) (u18 : Nat), WeakLe τ [(5, oref 0 u17 0 L19.length), (6, i64 v20)] ∧ DeadLe Γ [oJ u17 L19, ⟨u18, none⟩, ⟨1, none⟩] ∧ z2 = .inl (L19, v20)) ?_ ?_
  ·refine RunC.block (RunC.loop (RunL.loopM (x := z2) (K1h_s1 r4) (fun (s : (List Int) × Int × Int) τ Γ => ∃ (u5 : Nat) (u6 : Nat), WeakLe τ [(5, oref 0 u5 0 s.1.length), (6, i64 s.2.1), (15, oref 2 1 0 r4.length), (16, i64 ((r4.length : Nat) : Int)), (17, i64 s.2.2)] ∧ DeadLe Γ [⟨u5, some (s.1.map i64)⟩, ⟨u6, none⟩, (z02c r4)]) ?_ _ _ _ hz_2 ⟨1, 1, ⟨aR, aR, aR, aR, aR, trivial⟩, ⟨dR, dL, dR, trivial⟩⟩))
   rintro ⟨L7, v8, v9⟩ τ2 Γ2 y2_ ⟨u5, u6, hw2, hd2⟩ h2_ ho2 hr2
   refine RunC.wl (τ' := [(5, oref 0 u5 0 L7.length), (6, i64 v8), (15, oref 2 1 0 r4.length), (16, i64 ((r4.length : Nat) : Int)), (17, i64 v9)]) (Γ' := [oJ u5 L7, ⟨u6, none⟩, (z02c r4)]) hw2 hd2 ?_
   replace h2_ : K1h_b1 r4 L7 v8 v9 = some y2_ := h2_
   unfold K1h_b1 at h2_
   refine yS ?_
   rcases oB h2_ with ⟨hc6, h2_⟩ | ⟨hc6, h2_⟩
   ·refine yW<|yl rfl (b true) (LOp.eqb (LOp.lss rfl rfl rfl) hc6)<|zN ?_
    refine yS<|yT<|RunC.skip<|yS<|RunC.block<|yS ?_
    obtain ⟨e10, he7, h2_⟩ := oS h2_
    refine yW<|yd rfl (optr 2 1 v9.toNat) (TOp.ixo und123 siz129 rfl rfl rfl (at_in he7 rfl) rfl)<|yd rfl (ik .u64 e10) (TOp.load1_o rfl (at_cell he7) agg129 rfl rfl)<|ya rfl (ik .u64 e10)<|zN ?_
    refine yS ?_
    obtain ⟨r11, hf8, h2_⟩ := oS h2_
    obtain ⟨x12, hx9, h2_⟩ := oL h2_
    obtain ⟨hm10, h2_⟩ := need_some h2_
    refine yW<|ym rfl (oref 0 u5 0 L7.length)<|ym rfl (ik .u64 e10)<|yd rfl (i64 r11) (yc ent119 rfl rfl bN0 (K1g_ok e10 r11 hf8))<|yl rfl (i64 x12) (LOp.eqr (LOp.add rfl rfl rfl) (congrArg (ik .i64) hx9))<|ye rfl (oref 1 (u6 + 1) 0 1) ([oJ u5 L7, oJ (u6 + 1) [x12], (z02c r4)]) (TOp.buildSlice_o (g := ⟨u6, none⟩) (za := i64 0) (qs := [(0, [i64 x12])]) 1 rfl und22 siz2 zer2 rfl zel2 rfl rfl ⟨rfl, ⟨_, ALe.refl _, rfl⟩, trivial⟩ rfl)<|ROps.app (f := i64) (xs := L7) (ys := ([x12] : List Int)) (Γ' := [oJ (u5 + 1) (L7 ++ [x12]), oJ (u6 + 1) [x12], (z02c r4)]) rfl pun22 inf2 rfl rfl rfl rfl rfl rfl rfl rfl rfl (by simp) (ReadAs.own rfl (by simp)) (ones_map (fun _ => rfl)) (ap_by hm10) (ap_mx hm10) rfl<|ya rfl (oref 0 (u5 + 1) 0 (L7.length + 1))<|zN ?_
    refine RunC.wl (τ' := [(5, oref 0 (u5 + 1) 0 (L7.length + 1)), (6, i64 v8), (8, ik .u64 e10), (15, oref 2 1 0 r4.length), (16, i64 ((r4.length : Nat) : Int)), (17, i64 v9)]) (Γ' := [oJ (u5 + 1) (L7 ++ [x12]), ⟨(u6 + 1), none⟩, (z02c r4)]) ⟨aR, aR, aR, aR, aR, aR, trivial⟩ ⟨dR, dL, dR, trivial⟩ ?_
    obtain ⟨r13, hf11, h2_⟩ := oS h2_
    obtain ⟨x14, hx12, h2_⟩ := oL h2_
    obtain ⟨x15, hx13, h2_⟩ := oL h2_
    refine yW<|ym rfl (i64 v8)<|ym rfl (ik .u64 e10)<|yd rfl (i64 r13) (yc ent119 rfl rfl bN0 (K1g_ok e10 r13 hf11))<|yl rfl (i64 x14) (LOp.eqr (LOp.add rfl rfl rfl) (congrArg (ik .i64) hx12))<|yl rfl (i64 x15) (LOp.eqr (LOp.add rfl rfl rfl) (congrArg (ik .i64) hx13))<|ya rfl (i64 x15)<|zN ?_
    obtain ⟨x16, hx14, h2_⟩ := oL h2_
    refine yW<|yl rfl (i64 x16) (LOp.eqr (LOp.add rfl rfl rfl) (congrArg (ik .i64) hx14))<|ym rfl (i64 x16)<|zN ?_
    cases oI h2_
    exact ⟨_, rfl, (u5 + 1), (u6 + 1), ⟨(ALe.eq (by rw [(app_len rfl rfl)] <;> rfl)), aR, aR, aR, aR, trivial⟩, ⟨dR, dL, dR, trivial⟩⟩
   ·refine yW<|yl rfl (b false) (LOp.eqb (LOp.lss rfl rfl rfl) hc6)<|zN ?_
    refine yS<|yF<|RunC.exit ?_
    cases oI h2_
    have hx := ho2 _ rfl
    exact ⟨L7, v8, u5, u6, ⟨aR, aR, trivial⟩, ⟨dR, dL, dL, trivial⟩, hx⟩
  ·rintro τ3 Γ3 ⟨L19, v20, u17, u18, hw3, hd3, rfl⟩
   refine RunC.wl hw3 hd3 ?_
   replace h : K1h_k1 L19 v20 = some (q0, q1, q2) := h
   unfold K1h_k1 at h
   refine zQ<|ym rfl (oref 0 u17 0 L19.length)<|ym rfl (i64 v20)<|ya rfl (oref 0 u17 0 L19.length)<|ya rfl (i64 v20)<|ya rfl (b true)<|zN ?_
   refine RunC.ret ?_
   have hq := oI h
   obtain ⟨hq0, hq⟩ := Prod.mk.inj hq
   obtain ⟨hq1, hq⟩ := Prod.mk.inj hq
   subst q0
   subst q1
   subst q2
   exact bodyQ.mk (r' := tup [oref 0 u17 0 L19.length, i64 v20, b true]) [(0, u17)] (.inr rfl) rfl (ndB_ok rfl) (by simp [ren, rens, sigma]) rfl (Res.three rfl (RV.tmp rfl) (RV.tmp rfl) (RV.tmp rfl)) (SelL.arr0 (f := i64) (fun _ => rfl) rfl trivial)
 ·refine yW<|yl rfl (agg (z02b a0 a1 a2 a3)) (yL agg30 siz30)<|yd rfl (b false) (TOp.eqb (TOp.callB (CallAs.func ent30 rfl rfl) (Bors.cons (Bor.agg (bP (bS (bS (bS bN))))) bN) rfl rfl (K0w_ok a0 a1 a2 a3 r1 hf1)) hc2)<|yl rfl (b true) n0<|zN ?_
  refine yT<|zQ<|ya rfl nilsl<|ya rfl (i64 0)<|ya rfl (b false)<|zN ?_
  refine RunC.nil_slot (Γ' := [oJ 1 [], o0, o0]) 2 0 rfl rfl rfl<|RunC.ret ?_
  have hq := oI h
  obtain ⟨hq0, hq⟩ := Prod.mk.inj hq
  obtain ⟨hq1, hq⟩ := Prod.mk.inj hq
  subst q0
  subst q1
  subst q2
  exact yB (tup [oref 0 1 0 (([] : List Int).length), i64 0, b false]) [(0, 1)] (Res.eq (Res.three rfl (RV.tmp rfl) (RV.tmp rfl) (RV.tmp rfl)) (by first | rfl | (rw [(show ([] : List Int).length = 0 from rfl)] <;> rfl))) (SelL.arr0 (f := i64) (fun _ => rfl) rfl trivial)

def K1i (a0 : Int) (a1 : List Int) (a2 : List Int) (a3 : List F) : Option (Bool) :=
 obind (K09 a0 a1 a2 a3) fun (r1 : Bool) =>
 some r1
theorem K1i_ok (a0 : Int) (a1 : List Int) (a2 : List Int) (a3 : List F) (q0 : Bool) (h : K1i a0 a1 a2 a3 = some q0) : Ev Try.prog 44 [agg [i64 a0, sl a1.length (a1.map i64), sl a2.length (a2.map i64), (sFc a3)]] [] (b q0) [] := by
 refine yE Try.func44 0 9 0 ([(0, agg [i64 a0, sl a1.length (a1.map i64), sl a2.length (a2.map i64), (sFc a3)])]) [] rfl ?_
 unfold K1i at h
 refine zQ<|yd rfl (ptr [i64 a0, sl a1.length (a1.map i64), sl a2.length (a2.map i64), (sFc a3)]) (TOp.box_s rfl rfl rfl)<|ya rfl (b false)<|zN ?_
 refine yS ?_
 obtain ⟨r1, hf1, h⟩ := oS h
 refine yW<|yd rfl (b r1) (TOp.callB (CallAs.func ent111 rfl rfl) (Bors.cons (Bor.ptr (bP (bS (bS (bS bN))))) bN) rfl rfl (K09_ok a0 a1 a2 a3 r1 hf1))<|ya rfl (b r1)<|zN ?_
 refine RunC.ret ?_
 have hq := oI h
 subst q0
 exact bR rfl

def K1j_b2 (a0 : Int) (a1 : List Int) (a2 : List Int) (a3 : List F) (v8 : Int) (L10 : List Bool) (L12 : List F) (v14 : Int) : Option (LR ((List Bool) × (List F) × Int) ((List Bool) × (List F)) (Int × (List Bool) × (List F))) :=
 olet (IntKind.i64.wrap (v8 + 1)) fun (x15 : Int) =>
 obind (at? a1 x15) fun (e16 : Int) =>
 bsel (decide (v14 < e16)) (
  olet (IntKind.i64.wrap (v8 * a0)) fun (x17 : Int) =>
  obind (at? a2 v14) fun (e18 : Int) =>
  olet (IntKind.i64.wrap (x17 + e18)) fun (x19 : Int) =>
  obind (setAt? L10 x19 true) fun (L20 : List Bool) =>
  olet (IntKind.i64.wrap (v8 * a0)) fun (x21 : Int) =>
  obind (at? a2 v14) fun (e22 : Int) =>
  olet (IntKind.i64.wrap (x21 + e22)) fun (x23 : Int) =>
  obind (at? a3 v14) fun (e24 : F) =>
  obind (setAt? L12 x23 e24) fun (L25 : List F) =>
  olet (IntKind.i64.wrap (v14 + 1)) fun (x26 : Int) =>
  some (LR.next (L20, L25, x26))) (
  some (LR.out (L10, L12)))
def K1j_s2 (a0 : Int) (a1 : List Int) (a2 : List Int) (a3 : List F) (v8 : Int) : ((List Bool) × (List F) × Int) → Option (LR ((List Bool) × (List F) × Int) ((List Bool) × (List F)) (Int × (List Bool) × (List F))) := fun s => K1j_b2 a0 a1 a2 a3 v8 s.1 s.2.1 s.2.2
def K1j_k2 (v8 : Int) (L27 : List Bool) (L29 : List F) : Option (LR ((List Bool) × (List F) × Int) ((List Bool) × (List F)) (Int × (List Bool) × (List F))) :=
 olet (IntKind.i64.wrap (v8 + 1)) fun (x31 : Int) =>
 some (LR.next (L27, L29, x31))
def K1j_b3 (a0 : Int) (a1 : List Int) (a2 : List Int) (a3 : List F) (L4 : List Bool) (L6 : List F) (v8 : Int) : Option (LR ((List Bool) × (List F) × Int) ((List Bool) × (List F)) (Int × (List Bool) × (List F))) :=
 bsel (decide (v8 < a0)) (
  obind (at? a1 v8) fun (e9 : Int) =>
  obind (loopM (K1j_s2 a0 a1 a2 a3 v8) (L4, L6, e9)) fun z => osum z (fun e => K1j_k2 v8 e.1 e.2) (fun r => some (LR.ret r))) (
  some (LR.out (L4, L6)))
def K1j_s3 (a0 : Int) (a1 : List Int) (a2 : List Int) (a3 : List F) : ((List Bool) × (List F) × Int) → Option (LR ((List Bool) × (List F) × Int) ((List Bool) × (List F)) (Int × (List Bool) × (List F))) := fun s => K1j_b3 a0 a1 a2 a3 s.1 s.2.1 s.2.2
def K1j_k3 (r1 : Int) (L32 : List Bool) (L34 : List F) : Option (Int × (List Bool) × (List F)) :=
 some (r1, L32, L34)
def K1j (a0 : Int) (a1 : List Int) (a2 : List Int) (a3 : List F) : Option (Int × (List Bool) × (List F)) :=
 obind3 (K06 a0) fun (r1 : Int) (r2 : List Bool) (r3 : List F) =>
 obind (loopM (K1j_s3 a0 a1 a2 a3) (r2, r3, 0)) fun z => osum z (fun e => K1j_k3 r1 e.1 e.2) (fun r => some r)
abbrev z02d (a0 : Int) (a1 : List Int) (a2 : List Int) (a3 : List F) : List AV := [i64 a0, sl a1.length (a1.map i64), sl a2.length (a2.map i64), (sFc a3)]
abbrev z02e (r1 : Int) (r2 : List Bool) (r3 : List F) : List AV := [i64 r1, oref 1 1 0 r2.length, oref 2 1 0 r3.length]
abbrev z02f : Ob := ⟨1, some [i64 0, nilsl, nilsl]⟩
theorem K1j_ok (a0 : Int) (a1 : List Int) (a2 : List Int) (a3 : List F) (q0 : Int) (q1 : List Bool) (q2 : List F) (h : K1j a0 a1 a2 a3 = some (q0, q1, q2)) : Ev Try.prog 74 [ptr [i64 a0, sl a1.length (a1.map i64), sl a2.length (a2.map i64), (sFc a3)]] [] (agg [i64 q0, oref 0 0 0 q1.length, oref 1 0 0 q2.length]) [⟨0, some (q1.map b)⟩, oF 0 q2] := by
 refine yE Try.func74 4 161 0 ([(0, ptr (z02d a0 a1 a2 a3))]) [o0, o0, o0, o0] rfl ?_
 unfold K1j at h
 refine zQ<|ye rfl (optr 0 1 0) ([z02f, o0, o0, o0]) (TOp.alloc_o (g := o0) 0 rfl zer91 zok91 rfl)<|zN ?_
 refine yS ?_
 obtain ⟨r1, r2, r3, hf1, h⟩ := obind3_some h
 refine yW<|ym rfl (ptr (z02d a0 a1 a2 a3))<|yl rfl (ptr (z02d a0 a1 a2 a3)) n4<|yl rfl (ptr (z02d a0 a1 a2 a3)) (LOp.fap und30 rfl siz2 rfl rfl rfl)<|yl rfl (i64 a0) (n2 agg2)<|ye rfl (agg (z02e r1 r2 r3)) ([z02f, ⟨1, some (r2.map b)⟩, oF 1 r3, o0]) (TOp.callBN (ls := [(r2.map b), (r3.map f32)]) [1, 2] (CallAs.func ent97 rfl rfl) bN0 rfl (K06_ok a0 r1 r2 r3 hf1) (and_all (lts0_map (f := b) (fun _ => rfl) _) (and_all (lts0_map (f := f32) (fun _ => rfl) _) rfl)) (and_all (noss_map (f := b) (fun _ => rfl) _) (and_all (noss_map (f := f32) (fun _ => rfl) _) rfl)) rfl (by decide) (ns_of ⟨⟨_, rfl⟩, ⟨_, rfl⟩, trivial⟩))<|ye rfl (optr 3 1 0) ([z02f, ⟨1, some (r2.map b)⟩, oF 1 r3, z02f]) (TOp.alloc_o (g := o0) 3 rfl zer91 zok91 rfl)<|ys (agg (z02e r1 r2 r3)) (z02e r1 r2 r3) ([z02f, ⟨1, some (r2.map b)⟩, oF 1 r3, ⟨1, some (z02e r1 r2 r3)⟩]) siz91<|zN ?_
 refine yS<|zQ<|ya rfl (i64 0)<|zN ?_
 obtain ⟨z4, hz_4, h⟩ := oS h
 refine RunC.cutN (fun τ Γ => ∃ (L32 : List Bool) (L34 : List F), L32.length = r2.length ∧ L34.length = r3.length ∧ WeakLe τ [(2, optr 0 1 0), (3, optr 3 1 0)] ∧ DeadLe Γ [z02f, ⟨1, some (L32.map b)⟩, oF 1 L34, ⟨1, some (z02e r1 r2 r3)⟩] ∧ z4 = .inl (L32, L34)) ?_ ?_
 ·refine RunC.block (RunC.loop (RunL.loopM (x := z4) (K1j_s3 a0 a1 a2 a3) (fun (s : (List Bool) × (List F) × Int) τ Γ => s.1.length = r2.length ∧ s.2.1.length = r3.length ∧ WeakLe τ [(0, ptr (z02d a0 a1 a2 a3)), (2, optr 0 1 0), (3, optr 3 1 0), (4, i64 s.2.2)] ∧ DeadLe Γ [z02f, ⟨1, some (s.1.map b)⟩, ⟨1, some (s.2.1.map f32)⟩, ⟨1, some (z02e r1 r2 r3)⟩]) ?_ _ _ _ hz_4 ⟨rfl, rfl, ⟨aR, aR, aR, aR, trivial⟩, ⟨dR, dR, dR, dR, trivial⟩⟩))
  rintro ⟨L4, L6, v8⟩ τ4 Γ4 y4_ ⟨hl5, hl7, hw4, hd4⟩ h4_ ho4 hr4
  refine RunC.wl (τ' := [(0, ptr (z02d a0 a1 a2 a3)), (2, optr 0 1 0), (3, optr 3 1 0), (4, i64 v8)]) (Γ' := [z02f, ⟨1, some (L4.map b)⟩, oF 1 L6, ⟨1, some (z02e r1 r2 r3)⟩]) hw4 hd4 ?_
  replace hl5 : L4.length = r2.length := hl5
  replace hl7 : L6.length = r3.length := hl7
  replace h4_ : K1j_b3 a0 a1 a2 a3 L4 L6 v8 = some y4_ := h4_
  unfold K1j_b3 at h4_
  refine yS<|yS ?_
  rcases oB h4_ with ⟨hc2, h4_⟩ | ⟨hc2, h4_⟩
  ·refine yW<|ym rfl (i64 v8)<|ym rfl (ptr (z02d a0 a1 a2 a3))<|yl rfl (ptr (z02d a0 a1 a2 a3)) n4<|yl rfl (ptr (z02d a0 a1 a2 a3)) (LOp.fap und30 rfl siz2 rfl rfl rfl)<|yl rfl (i64 a0) (n2 agg2)<|yl rfl (b true) (LOp.eqb (LOp.lss rfl rfl rfl) hc2)<|zN ?_
   refine yT<|RunC.skip<|yS<|RunC.block<|yS ?_
   obtain ⟨e9, he3, h4_⟩ := oS h4_
   refine yW<|ym rfl (ptr (z02d a0 a1 a2 a3))<|yl rfl (ptr (z02d a0 a1 a2 a3)) n4<|yl rfl (ptr [sl a1.length (a1.map i64), sl a2.length (a2.map i64), (sFc a3)]) (LOp.fap und30 rfl siz22 rfl rfl rfl)<|yl rfl (sl a1.length (a1.map i64)) (n2 agg22)<|ym rfl (i64 v8)<|yl rfl (ptr [i64 e9]) (LOp.le (LOp.ix (f := i64) und22 siz2 rfl rfl rfl rfl he3) ALe.ptr)<|yl rfl (i64 e9) (n2 agg2)<|ya rfl (i64 e9)<|zN ?_
   refine RunC.wl (τ' := [(0, ptr (z02d a0 a1 a2 a3)), (2, optr 0 1 0), (3, optr 3 1 0), (4, i64 v8), (5, i64 e9)]) (Γ' := [z02f, ⟨1, some (L4.map b)⟩, oF 1 L6, ⟨1, some (z02e r1 r2 r3)⟩]) ⟨aR, aR, aR, aR, aR, trivial⟩ ⟨dR, dR, dR, dR, trivial⟩ ?_
   obtain ⟨z5, hz_5, h4_⟩ := oS h4_
   refine RunC.cutN (fun τ Γ => ∃ (L27 : List Bool) (L29 : List F), L27.length = r2.length ∧ L29.length = r3.length ∧ WeakLe τ [(0, ptr (z02d a0 a1 a2 a3)), (2, optr 0 1 0), (3, optr 3 1 0), (4, i64 v8)] ∧ DeadLe Γ [z02f, ⟨1, some (L27.map b)⟩, oF 1 L29, ⟨1, some (z02e r1 r2 r3)⟩] ∧ z5 = .inl (L27, L29)) ?_ ?_
   ·refine RunC.block (RunC.loop (RunL.loopM (x := z5) (K1j_s2 a0 a1 a2 a3 v8) (fun (s : (List Bool) × (List F) × Int) τ Γ => s.1.length = r2.length ∧ s.2.1.length = r3.length ∧ WeakLe τ [(0, ptr (z02d a0 a1 a2 a3)), (2, optr 0 1 0), (3, optr 3 1 0), (4, i64 v8), (5, i64 s.2.2)] ∧ DeadLe Γ [z02f, ⟨1, some (s.1.map b)⟩, ⟨1, some (s.2.1.map f32)⟩, ⟨1, some (z02e r1 r2 r3)⟩]) ?_ _ _ _ hz_5 ⟨hl5, hl7, ⟨aR, aR, aR, aR, aR, trivial⟩, ⟨dR, dR, dR, dR, trivial⟩⟩))
    rintro ⟨L10, L12, v14⟩ τ5 Γ5 y5_ ⟨hl11, hl13, hw5, hd5⟩ h5_ ho5 hr5
    refine RunC.wl (τ' := [(0, ptr (z02d a0 a1 a2 a3)), (2, optr 0 1 0), (3, optr 3 1 0), (4, i64 v8), (5, i64 v14)]) (Γ' := [z02f, ⟨1, some (L10.map b)⟩, oF 1 L12, ⟨1, some (z02e r1 r2 r3)⟩]) hw5 hd5 ?_
    replace hl11 : L10.length = r2.length := hl11
    replace hl13 : L12.length = r3.length := hl13
    replace h5_ : K1j_b2 a0 a1 a2 a3 v8 L10 L12 v14 = some y5_ := h5_
    unfold K1j_b2 at h5_
    refine yS<|yS ?_
    obtain ⟨x15, hx4, h5_⟩ := oL h5_
    obtain ⟨e16, he5, h5_⟩ := oS h5_
    rcases oB h5_ with ⟨hc6, h5_⟩ | ⟨hc6, h5_⟩
    ·refine yW<|ym rfl (i64 v14)<|ym rfl (ptr (z02d a0 a1 a2 a3))<|yl rfl (ptr (z02d a0 a1 a2 a3)) n4<|yl rfl (ptr [sl a1.length (a1.map i64), sl a2.length (a2.map i64), (sFc a3)]) (LOp.fap und30 rfl siz22 rfl rfl rfl)<|yl rfl (sl a1.length (a1.map i64)) (n2 agg22)<|ym rfl (i64 v8)<|yl rfl (i64 x15) (LOp.eqr (LOp.add rfl rfl rfl) (congrArg (ik .i64) hx4))<|yl rfl (ptr [i64 e16]) (LOp.le (LOp.ix (f := i64) und22 siz2 rfl rfl rfl rfl he5) ALe.ptr)<|yl rfl (i64 e16) (n2 agg2)<|yl rfl (b true) (LOp.eqb (LOp.lss rfl rfl rfl) hc6)<|zN ?_
     refine yT<|RunC.skip<|yS<|RunC.block<|yS ?_
     obtain ⟨x17, hx7, h5_⟩ := oL h5_
     obtain ⟨e18, he8, h5_⟩ := oS h5_
     obtain ⟨x19, hx9, h5_⟩ := oL h5_
     obtain ⟨L20, he10, h5_⟩ := oS h5_
     refine RunC.region_draw (Γ' := [z02f, ⟨1, some (L10.map b)⟩, oF 1 L12, ⟨1, some (z02e r1 r2 r3)⟩]) 17 mixed 
      (tl rfl (optr 3 1 1) (LOp.fao und91 rfl siz89 rfl rfl rfl) <|
      (TR.d (r := oref 1 1 0 r2.length) (fs := []) rfl rfl (TOp.load1_o rfl rfl agg89 rfl rfl) <|
      (tm rfl (i64 v8) <|
      (tm rfl (ptr (z02d a0 a1 a2 a3)) <|
      (tl rfl (ptr (z02d a0 a1 a2 a3)) n4 <|
      (tl rfl (ptr (z02d a0 a1 a2 a3)) (LOp.fap und30 rfl siz2 rfl rfl rfl) <|
      (tl rfl (i64 a0) (n2 agg2) <|
      (tl rfl (i64 x17) (LOp.eqr (LOp.mul rfl rfl rfl) (congrArg (ik .i64) hx7)) <|
      (tm rfl (ptr (z02d a0 a1 a2 a3)) <|
      (tl rfl (ptr (z02d a0 a1 a2 a3)) n4 <|
      (tl rfl (ptr [sl a2.length (a2.map i64), (sFc a3)]) (LOp.fap und30 rfl siz22 rfl rfl rfl) <|
      (tl rfl (sl a2.length (a2.map i64)) (n2 agg22) <|
      (tm rfl (i64 v14) <|
      (tl rfl (ptr [i64 e18]) (LOp.le (LOp.ix (f := i64) und22 siz2 rfl rfl rfl rfl he8) ALe.ptr) <|
      (tl rfl (i64 e18) (n2 agg2) <|
      (tl rfl (i64 x19) (LOp.eqr (LOp.add rfl rfl rfl) (congrArg (ik .i64) hx9)) <|
      (TR.d (r := optr 1 1 x19.toNat) (fs := []) rfl rfl (TOp.ixo und89 siz4 rfl rfl rfl (set_in he10 hl11) rfl) <|
      TR.nil))))))))))))))))) rfl (by kernel_rfl) rfl fills_nil rfl ?_
     iterate 17 refine ROps.dropS ?_
     refine ROps.drop0<|ROps.st (f := b) (i := x19) (Γ' := [z02f, ⟨1, some (L20.map b)⟩, oF 1 L12, ⟨1, some (z02e r1 r2 r3)⟩]) rfl siz4 rfl rfl rfl aR rfl rfl rfl he10 rfl<|zN ?_
     refine RunC.wl (τ' := [(0, ptr (z02d a0 a1 a2 a3)), (2, optr 0 1 0), (3, optr 3 1 0), (4, i64 v8), (5, i64 v14)]) (Γ' := [z02f, ⟨1, some (L20.map b)⟩, oF 1 L12, ⟨1, some (z02e r1 r2 r3)⟩]) ⟨aR, aR, aR, aR, aR, trivial⟩ ⟨dR, dR, dR, dR, trivial⟩ ?_
     obtain ⟨x21, hx11, h5_⟩ := oL h5_
     obtain ⟨e22, he12, h5_⟩ := oS h5_
     obtain ⟨x23, hx13, h5_⟩ := oL h5_
     obtain ⟨e24, he14, h5_⟩ := oS h5_
     obtain ⟨L25, he15, h5_⟩ := oS h5_
     refine RunC.region_draw (Γ' := [z02f, ⟨1, some (L20.map b)⟩, oF 1 L12, ⟨1, some (z02e r1 r2 r3)⟩]) 24 mixed 
      (tl rfl (optr 3 1 2) (LOp.fao und91 rfl siz23 rfl rfl rfl) <|
      (TR.d (r := oref 2 1 0 r3.length) (fs := []) rfl rfl (TOp.load1_o rfl rfl agg23 rfl rfl) <|
      (tm rfl (i64 v8) <|
      (tm rfl (ptr (z02d a0 a1 a2 a3)) <|
      (tl rfl (ptr (z02d a0 a1 a2 a3)) n4 <|
      (tl rfl (ptr (z02d a0 a1 a2 a3)) (LOp.fap und30 rfl siz2 rfl rfl rfl) <|
      (tl rfl (i64 a0) (n2 agg2) <|
      (tl rfl (i64 x21) (LOp.eqr (LOp.mul rfl rfl rfl) (congrArg (ik .i64) hx11)) <|
      (tm rfl (ptr (z02d a0 a1 a2 a3)) <|
      (tl rfl (ptr (z02d a0 a1 a2 a3)) n4 <|
      (tl rfl (ptr [sl a2.length (a2.map i64), (sFc a3)]) (LOp.fap und30 rfl siz22 rfl rfl rfl) <|
      (tl rfl (sl a2.length (a2.map i64)) (n2 agg22) <|
      (tm rfl (i64 v14) <|
      (tl rfl (ptr [i64 e22]) (LOp.le (LOp.ix (f := i64) und22 siz2 rfl rfl rfl rfl he12) ALe.ptr) <|
      (tl rfl (i64 e22) (n2 agg2) <|
      (tl rfl (i64 x23) (LOp.eqr (LOp.add rfl rfl rfl) (congrArg (ik .i64) hx13)) <|
      (tm rfl (ptr (z02d a0 a1 a2 a3)) <|
      (tl rfl (ptr (z02d a0 a1 a2 a3)) n4 <|
      (tl rfl (ptr [(sFc a3)]) (LOp.fap und30 rfl siz23 rfl rfl rfl) <|
      (tl rfl (sFc a3) (n2 agg23) <|
      (tm rfl (i64 v14) <|
      (tl rfl (ptr [f32 e24]) (LOp.le (LOp.ix (f := f32) und23 siz26 rfl rfl rfl rfl he14) ALe.ptr) <|
      (tl rfl (f32 e24) (n2 agg26) <|
      (TR.d (r := optr 2 1 x23.toNat) (fs := []) rfl rfl (TOp.ixo und23 siz26 rfl rfl rfl (set_in he15 hl13) rfl) <|
      TR.nil)))))))))))))))))))))))) rfl (by kernel_rfl) rfl fills_nil rfl ?_
     iterate 24 refine ROps.dropS ?_
     refine ROps.drop0<|ROps.st (f := f32) (i := x23) (Γ' := [z02f, ⟨1, some (L20.map b)⟩, oF 1 L25, ⟨1, some (z02e r1 r2 r3)⟩]) rfl siz26 rfl rfl rfl aR rfl rfl rfl he15 rfl<|zN ?_
     refine RunC.wl (τ' := [(0, ptr (z02d a0 a1 a2 a3)), (2, optr 0 1 0), (3, optr 3 1 0), (4, i64 v8), (5, i64 v14)]) (Γ' := [z02f, ⟨1, some (L20.map b)⟩, oF 1 L25, ⟨1, some (z02e r1 r2 r3)⟩]) ⟨aR, aR, aR, aR, aR, trivial⟩ ⟨dR, dR, dR, dR, trivial⟩ ?_
     obtain ⟨x26, hx16, h5_⟩ := oL h5_
     refine yW<|ym rfl (i64 v14)<|yl rfl (i64 x26) (LOp.eqr (LOp.add rfl rfl rfl) (congrArg (ik .i64) hx16))<|ya rfl (i64 x26)<|zN ?_
     cases oI h5_
     exact ⟨_, rfl, ((setAt?_len he10).trans hl11), ((setAt?_len he15).trans hl13), ⟨aR, aR, aR, aR, aR, trivial⟩, ⟨dR, dR, dR, dR, trivial⟩⟩
    ·refine yW<|ym rfl (i64 v14)<|ym rfl (ptr (z02d a0 a1 a2 a3))<|yl rfl (ptr (z02d a0 a1 a2 a3)) n4<|yl rfl (ptr [sl a1.length (a1.map i64), sl a2.length (a2.map i64), (sFc a3)]) (LOp.fap und30 rfl siz22 rfl rfl rfl)<|yl rfl (sl a1.length (a1.map i64)) (n2 agg22)<|ym rfl (i64 v8)<|yl rfl (i64 x15) (LOp.eqr (LOp.add rfl rfl rfl) (congrArg (ik .i64) hx4))<|yl rfl (ptr [i64 e16]) (LOp.le (LOp.ix (f := i64) und22 siz2 rfl rfl rfl rfl he5) ALe.ptr)<|yl rfl (i64 e16) (n2 agg2)<|yl rfl (b false) (LOp.eqb (LOp.lss rfl rfl rfl) hc6)<|zN ?_
     refine yF<|RunC.exit ?_
     cases oI h5_
     have hx := ho5 _ rfl
     exact ⟨L10, L12, hl11, hl13, ⟨aR, aR, aR, aR, trivial⟩, ⟨dR, dR, dR, dR, trivial⟩, hx⟩
   ·rintro τ6 Γ6 ⟨L27, L29, hl28, hl30, hw6, hd6, rfl⟩
    refine RunC.wl hw6 hd6 ?_
    replace h4_ : K1j_k2 v8 L27 L29 = some y4_ := h4_
    unfold K1j_k2 at h4_
    obtain ⟨x31, hx17, h4_⟩ := oL h4_
    refine yW<|ym rfl (i64 v8)<|yl rfl (i64 x31) (LOp.eqr (LOp.add rfl rfl rfl) (congrArg (ik .i64) hx17))<|ya rfl (i64 x31)<|zN ?_
    cases oI h4_
    exact ⟨_, rfl, hl28, hl30, ⟨aR, aR, aR, aR, trivial⟩, ⟨dR, dR, dR, dR, trivial⟩⟩
  ·refine yW<|ym rfl (i64 v8)<|ym rfl (ptr (z02d a0 a1 a2 a3))<|yl rfl (ptr (z02d a0 a1 a2 a3)) n4<|yl rfl (ptr (z02d a0 a1 a2 a3)) (LOp.fap und30 rfl siz2 rfl rfl rfl)<|yl rfl (i64 a0) (n2 agg2)<|yl rfl (b false) (LOp.eqb (LOp.lss rfl rfl rfl) hc2)<|zN ?_
   refine yF<|RunC.exit ?_
   cases oI h4_
   have hx := ho4 _ rfl
   exact ⟨L4, L6, hl5, hl7, ⟨aR, aR, trivial⟩, ⟨dR, dR, dR, dR, trivial⟩, hx⟩
 ·rintro τ7 Γ7 ⟨L32, L34, hl33, hl35, hw7, hd7, rfl⟩
  refine RunC.wl hw7 hd7 ?_
  replace h : K1j_k3 r1 L32 L34 = some (q0, q1, q2) := h
  unfold K1j_k3 at h
  refine zQ<|yd rfl (agg (z02e r1 r2 r3)) (yA agg91 siz91)<|ys (agg (z02e r1 r2 r3)) (z02e r1 r2 r3) ([⟨1, some (z02e r1 r2 r3)⟩, ⟨1, some (L32.map b)⟩, oF 1 L34, ⟨1, some (z02e r1 r2 r3)⟩]) siz91<|zN ?_
  refine RunC.ret ?_
  have hq := oI h
  obtain ⟨hq0, hq⟩ := Prod.mk.inj hq
  obtain ⟨hq1, hq⟩ := Prod.mk.inj hq
  subst q0
  subst q1
  subst q2
  exact yB (agg [i64 r1, oref 1 1 0 L32.length, oref 2 1 0 L34.length]) [(1, 1), (2, 1)] (Res.eq (Res.one rfl (RV.cell agg91 siz91 rfl rfl rfl rfl)) (by first | rfl | (rw [(show L32.length = r2.length from hl33), (show L34.length = r3.length from hl35)] <;> rfl))) (SelL.arr0 (f := b) (fun _ => rfl) rfl (sA rfl trivial))

def K1k_b2 (a0 : Int) (a1 : List Bool) (a2 : List F) (v8 : Int) (L9 : List Bool) (L11 : List F) (v13 : Int) : Option (LR ((List Bool) × (List F) × Int) ((List Bool) × (List F)) (Int × (List Bool) × (List F))) :=
 bsel (decide (v13 < a0)) (
  olet (IntKind.i64.wrap (v13 * a0)) fun (x14 : Int) =>
  olet (IntKind.i64.wrap (x14 + v8)) fun (x15 : Int) =>
  olet (IntKind.i64.wrap (v8 * a0)) fun (x16 : Int) =>
  olet (IntKind.i64.wrap (x16 + v13)) fun (x17 : Int) =>
  obind (at? a1 x17) fun (e18 : Bool) =>
  obind (setAt? L9 x15 e18) fun (L19 : List Bool) =>
  olet (IntKind.i64.wrap (v13 * a0)) fun (x20 : Int) =>
  olet (IntKind.i64.wrap (x20 + v8)) fun (x21 : Int) =>
  olet (IntKind.i64.wrap (v8 * a0)) fun (x22 : Int) =>
  olet (IntKind.i64.wrap (x22 + v13)) fun (x23 : Int) =>
  obind (at? a2 x23) fun (e24 : F) =>
  obind (setAt? L11 x21 e24) fun (L25 : List F) =>
  olet (IntKind.i64.wrap (v13 + 1)) fun (x26 : Int) =>
  some (LR.next (L19, L25, x26))) (
  some (LR.out (L9, L11)))
def K1k_s2 (a0 : Int) (a1 : List Bool) (a2 : List F) (v8 : Int) : ((List Bool) × (List F) × Int) → Option (LR ((List Bool) × (List F) × Int) ((List Bool) × (List F)) (Int × (List Bool) × (List F))) := fun s => K1k_b2 a0 a1 a2 v8 s.1 s.2.1 s.2.2
def K1k_k2 (v8 : Int) (L27 : List Bool) (L29 : List F) : Option (LR ((List Bool) × (List F) × Int) ((List Bool) × (List F)) (Int × (List Bool) × (List F))) :=
 olet (IntKind.i64.wrap (v8 + 1)) fun (x31 : Int) =>
 some (LR.next (L27, L29, x31))
def K1k_b3 (a0 : Int) (a1 : List Bool) (a2 : List F) (L4 : List Bool) (L6 : List F) (v8 : Int) : Option (LR ((List Bool) × (List F) × Int) ((List Bool) × (List F)) (Int × (List Bool) × (List F))) :=
 bsel (decide (v8 < a0)) (
  obind (loopM (K1k_s2 a0 a1 a2 v8) (L4, L6, 0)) fun z => osum z (fun e => K1k_k2 v8 e.1 e.2) (fun r => some (LR.ret r))) (
  some (LR.out (L4, L6)))
def K1k_s3 (a0 : Int) (a1 : List Bool) (a2 : List F) : ((List Bool) × (List F) × Int) → Option (LR ((List Bool) × (List F) × Int) ((List Bool) × (List F)) (Int × (List Bool) × (List F))) := fun s => K1k_b3 a0 a1 a2 s.1 s.2.1 s.2.2
def K1k_k3 (r1 : Int) (L32 : List Bool) (L34 : List F) : Option (Int × (List Bool) × (List F)) :=
 some (r1, L32, L34)
def K1k (a0 : Int) (a1 : List Bool) (a2 : List F) : Option (Int × (List Bool) × (List F)) :=
 obind3 (K06 a0) fun (r1 : Int) (r2 : List Bool) (r3 : List F) =>
 obind (loopM (K1k_s3 a0 a1 a2) (r2, r3, 0)) fun z => osum z (fun e => K1k_k3 r1 e.1 e.2) (fun r => some r)
abbrev z02g (a0 : Int) (a1 : List Bool) (a2 : List F) : List AV := [i64 a0, sl a1.length (a1.map b), (sFc a2)]
abbrev z02h (r1 : Int) (r2 : List Bool) (r3 : List F) : List AV := [i64 r1, oref 1 1 0 r2.length, oref 2 1 0 r3.length]
abbrev z02i : Ob := ⟨1, some [i64 0, nilsl, nilsl]⟩
theorem K1k_ok (a0 : Int) (a1 : List Bool) (a2 : List F) (q0 : Int) (q1 : List Bool) (q2 : List F) (h : K1k a0 a1 a2 = some (q0, q1, q2)) : Ev Try.prog 120 [ptr [i64 a0, sl a1.length (a1.map b), (sFc a2)]] [] (agg [i64 q0, oref 0 0 0 q1.length, oref 1 0 0 q2.length]) [⟨0, some (q1.map b)⟩, oF 0 q2] := by
 refine yE Try.func120 4 157 0 ([(0, ptr (z02g a0 a1 a2))]) [o0, o0, o0, o0] rfl ?_
 unfold K1k at h
 refine zQ<|ye rfl (optr 0 1 0) ([z02i, o0, o0, o0]) (TOp.alloc_o (g := o0) 0 rfl zer91 zok91 rfl)<|zN ?_
 refine yS ?_
 obtain ⟨r1, r2, r3, hf1, h⟩ := obind3_some h
 refine yW<|ym rfl (ptr (z02g a0 a1 a2))<|yl rfl (ptr (z02g a0 a1 a2)) n4<|yl rfl (ptr (z02g a0 a1 a2)) (LOp.fap und91 rfl siz2 rfl rfl rfl)<|yl rfl (i64 a0) (n2 agg2)<|ye rfl (agg (z02h r1 r2 r3)) ([z02i, ⟨1, some (r2.map b)⟩, oF 1 r3, o0]) (TOp.callBN (ls := [(r2.map b), (r3.map f32)]) [1, 2] (CallAs.func ent97 rfl rfl) bN0 rfl (K06_ok a0 r1 r2 r3 hf1) (and_all (lts0_map (f := b) (fun _ => rfl) _) (and_all (lts0_map (f := f32) (fun _ => rfl) _) rfl)) (and_all (noss_map (f := b) (fun _ => rfl) _) (and_all (noss_map (f := f32) (fun _ => rfl) _) rfl)) rfl (by decide) (ns_of ⟨⟨_, rfl⟩, ⟨_, rfl⟩, trivial⟩))<|ye rfl (optr 3 1 0) ([z02i, ⟨1, some (r2.map b)⟩, oF 1 r3, z02i]) (TOp.alloc_o (g := o0) 3 rfl zer91 zok91 rfl)<|ys (agg (z02h r1 r2 r3)) (z02h r1 r2 r3) ([z02i, ⟨1, some (r2.map b)⟩, oF 1 r3, ⟨1, some (z02h r1 r2 r3)⟩]) siz91<|zN ?_
 refine yS<|zQ<|ya rfl (i64 0)<|zN ?_
 obtain ⟨z4, hz_4, h⟩ := oS h
 refine RunC.cutN (fun τ Γ => ∃ (L32 : List Bool) (L34 : List F), L32.length = r2.length ∧ L34.length = r3.length ∧ WeakLe τ [(2, optr 0 1 0), (3, optr 3 1 0)] ∧ DeadLe Γ [z02i, ⟨1, some (L32.map b)⟩, oF 1 L34, ⟨1, some (z02h r1 r2 r3)⟩] ∧ z4 = .inl (L32, L34)) ?_ ?_
 ·refine RunC.block (RunC.loop (RunL.loopM (x := z4) (K1k_s3 a0 a1 a2) (fun (s : (List Bool) × (List F) × Int) τ Γ => s.1.length = r2.length ∧ s.2.1.length = r3.length ∧ WeakLe τ [(0, ptr (z02g a0 a1 a2)), (2, optr 0 1 0), (3, optr 3 1 0), (4, i64 s.2.2)] ∧ DeadLe Γ [z02i, ⟨1, some (s.1.map b)⟩, ⟨1, some (s.2.1.map f32)⟩, ⟨1, some (z02h r1 r2 r3)⟩]) ?_ _ _ _ hz_4 ⟨rfl, rfl, ⟨aR, aR, aR, aR, trivial⟩, ⟨dR, dR, dR, dR, trivial⟩⟩))
  rintro ⟨L4, L6, v8⟩ τ4 Γ4 y4_ ⟨hl5, hl7, hw4, hd4⟩ h4_ ho4 hr4
  refine RunC.wl (τ' := [(0, ptr (z02g a0 a1 a2)), (2, optr 0 1 0), (3, optr 3 1 0), (4, i64 v8)]) (Γ' := [z02i, ⟨1, some (L4.map b)⟩, oF 1 L6, ⟨1, some (z02h r1 r2 r3)⟩]) hw4 hd4 ?_
  replace hl5 : L4.length = r2.length := hl5
  replace hl7 : L6.length = r3.length := hl7
  replace h4_ : K1k_b3 a0 a1 a2 L4 L6 v8 = some y4_ := h4_
  unfold K1k_b3 at h4_
  refine yS<|yS ?_
  rcases oB h4_ with ⟨hc2, h4_⟩ | ⟨hc2, h4_⟩
  ·refine yW<|ym rfl (i64 v8)<|ym rfl (ptr (z02g a0 a1 a2))<|yl rfl (ptr (z02g a0 a1 a2)) n4<|yl rfl (ptr (z02g a0 a1 a2)) (LOp.fap und91 rfl siz2 rfl rfl rfl)<|yl rfl (i64 a0) (n2 agg2)<|yl rfl (b true) (LOp.eqb (LOp.lss rfl rfl rfl) hc2)<|zN ?_
   refine yT<|RunC.skip<|yS<|RunC.block<|zQ<|ya rfl (i64 0)<|zN ?_
   obtain ⟨z5, hz_5, h4_⟩ := oS h4_
   refine RunC.cutN (fun τ Γ => ∃ (L27 : List Bool) (L29 : List F), L27.length = r2.length ∧ L29.length = r3.length ∧ WeakLe τ [(0, ptr (z02g a0 a1 a2)), (2, optr 0 1 0), (3, optr 3 1 0), (4, i64 v8)] ∧ DeadLe Γ [z02i, ⟨1, some (L27.map b)⟩, oF 1 L29, ⟨1, some (z02h r1 r2 r3)⟩] ∧ z5 = .inl (L27, L29)) ?_ ?_
   ·refine RunC.block (RunC.loop (RunL.loopM (x := z5) (K1k_s2 a0 a1 a2 v8) (fun (s : (List Bool) × (List F) × Int) τ Γ => s.1.length = r2.length ∧ s.2.1.length = r3.length ∧ WeakLe τ [(0, ptr (z02g a0 a1 a2)), (2, optr 0 1 0), (3, optr 3 1 0), (4, i64 v8), (5, i64 s.2.2)] ∧ DeadLe Γ [z02i, ⟨1, some (s.1.map b)⟩, ⟨1, some (s.2.1.map f32)⟩, ⟨1, some (z02h r1 r2 r3)⟩]) ?_ _ _ _ hz_5 ⟨hl5, hl7, ⟨aR, aR, aR, aR, aR, trivial⟩, ⟨dR, dR, dR, dR, trivial⟩⟩))
    rintro ⟨L9, L11, v13⟩ τ5 Γ5 y5_ ⟨hl10, hl12, hw5, hd5⟩ h5_ ho5 hr5
    refine RunC.wl (τ' := [(0, ptr (z02g a0 a1 a2)), (2, optr 0 1 0), (3, optr 3 1 0), (4, i64 v8), (5, i64 v13)]) (Γ' := [z02i, ⟨1, some (L9.map b)⟩, oF 1 L11, ⟨1, some (z02h r1 r2 r3)⟩]) hw5 hd5 ?_
    replace hl10 : L9.length = r2.length := hl10
    replace hl12 : L11.length = r3.length := hl12
    replace h5_ : K1k_b2 a0 a1 a2 v8 L9 L11 v13 = some y5_ := h5_
    unfold K1k_b2 at h5_
    refine yS<|yS ?_
    rcases oB h5_ with ⟨hc3, h5_⟩ | ⟨hc3, h5_⟩
    ·refine yW<|ym rfl (i64 v13)<|ym rfl (ptr (z02g a0 a1 a2))<|yl rfl (ptr (z02g a0 a1 a2)) n4<|yl rfl (ptr (z02g a0 a1 a2)) (LOp.fap und91 rfl siz2 rfl rfl rfl)<|yl rfl (i64 a0) (n2 agg2)<|yl rfl (b true) (LOp.eqb (LOp.lss rfl rfl rfl) hc3)<|zN ?_
     refine yT<|RunC.skip<|yS<|RunC.block<|yS ?_
     obtain ⟨x14, hx4, h5_⟩ := oL h5_
     obtain ⟨x15, hx5, h5_⟩ := oL h5_
     obtain ⟨x16, hx6, h5_⟩ := oL h5_
     obtain ⟨x17, hx7, h5_⟩ := oL h5_
     obtain ⟨e18, he8, h5_⟩ := oS h5_
     obtain ⟨L19, he9, h5_⟩ := oS h5_
     refine RunC.region_draw (Γ' := [z02i, ⟨1, some (L9.map b)⟩, oF 1 L11, ⟨1, some (z02h r1 r2 r3)⟩]) 25 mixed 
      (tl rfl (optr 3 1 1) (LOp.fao und91 rfl siz89 rfl rfl rfl) <|
      (TR.d (r := oref 1 1 0 r2.length) (fs := []) rfl rfl (TOp.load1_o rfl rfl agg89 rfl rfl) <|
      (tm rfl (i64 v13) <|
      (tm rfl (ptr (z02g a0 a1 a2)) <|
      (tl rfl (ptr (z02g a0 a1 a2)) n4 <|
      (tl rfl (ptr (z02g a0 a1 a2)) (LOp.fap und91 rfl siz2 rfl rfl rfl) <|
      (tl rfl (i64 a0) (n2 agg2) <|
      (tl rfl (i64 x14) (LOp.eqr (LOp.mul rfl rfl rfl) (congrArg (ik .i64) hx4)) <|
      (tm rfl (i64 v8) <|
      (tl rfl (i64 x15) (LOp.eqr (LOp.add rfl rfl rfl) (congrArg (ik .i64) hx5)) <|
      (tm rfl (ptr (z02g a0 a1 a2)) <|
      (tl rfl (ptr (z02g a0 a1 a2)) n4 <|
      (tl rfl (ptr [sl a1.length (a1.map b), (sFc a2)]) (LOp.fap und91 rfl siz89 rfl rfl rfl) <|
      (tl rfl (sl a1.length (a1.map b)) (n2 agg89) <|
      (tm rfl (i64 v8) <|
      (tm rfl (ptr (z02g a0 a1 a2)) <|
      (tl rfl (ptr (z02g a0 a1 a2)) n4 <|
      (tl rfl (ptr (z02g a0 a1 a2)) (LOp.fap und91 rfl siz2 rfl rfl rfl) <|
      (tl rfl (i64 a0) (n2 agg2) <|
      (tl rfl (i64 x16) (LOp.eqr (LOp.mul rfl rfl rfl) (congrArg (ik .i64) hx6)) <|
      (tm rfl (i64 v13) <|
      (tl rfl (i64 x17) (LOp.eqr (LOp.add rfl rfl rfl) (congrArg (ik .i64) hx7)) <|
      (tl rfl (ptr [b e18]) (LOp.le (LOp.ix (f := b) und89 siz4 rfl rfl rfl rfl he8) ALe.ptr) <|
      (tl rfl (b e18) (n2 agg4) <|
      (TR.d (r := optr 1 1 x15.toNat) (fs := []) rfl rfl (TOp.ixo und89 siz4 rfl rfl rfl (set_in he9 hl10) rfl) <|
      TR.nil))))))))))))))))))))))))) rfl (by kernel_rfl) rfl fills_nil rfl ?_
     iterate 25 refine ROps.dropS ?_
     refine ROps.drop0<|ROps.st (f := b) (i := x15) (Γ' := [z02i, ⟨1, some (L19.map b)⟩, oF 1 L11, ⟨1, some (z02h r1 r2 r3)⟩]) rfl siz4 rfl rfl rfl aR rfl rfl rfl he9 rfl<|zN ?_
     refine RunC.wl (τ' := [(0, ptr (z02g a0 a1 a2)), (2, optr 0 1 0), (3, optr 3 1 0), (4, i64 v8), (5, i64 v13)]) (Γ' := [z02i, ⟨1, some (L19.map b)⟩, oF 1 L11, ⟨1, some (z02h r1 r2 r3)⟩]) ⟨aR, aR, aR, aR, aR, trivial⟩ ⟨dR, dR, dR, dR, trivial⟩ ?_
     obtain ⟨x20, hx10, h5_⟩ := oL h5_
     obtain ⟨x21, hx11, h5_⟩ := oL h5_
     obtain ⟨x22, hx12, h5_⟩ := oL h5_
     obtain ⟨x23, hx13, h5_⟩ := oL h5_
     obtain ⟨e24, he14, h5_⟩ := oS h5_
     obtain ⟨L25, he15, h5_⟩ := oS h5_
     refine RunC.region_draw (Γ' := [z02i, ⟨1, some (L19.map b)⟩, oF 1 L11, ⟨1, some (z02h r1 r2 r3)⟩]) 25 mixed 
      (tl rfl (optr 3 1 2) (LOp.fao und91 rfl siz23 rfl rfl rfl) <|
      (TR.d (r := oref 2 1 0 r3.length) (fs := []) rfl rfl (TOp.load1_o rfl rfl agg23 rfl rfl) <|
      (tm rfl (i64 v13) <|
      (tm rfl (ptr (z02g a0 a1 a2)) <|
      (tl rfl (ptr (z02g a0 a1 a2)) n4 <|
      (tl rfl (ptr (z02g a0 a1 a2)) (LOp.fap und91 rfl siz2 rfl rfl rfl) <|
      (tl rfl (i64 a0) (n2 agg2) <|
      (tl rfl (i64 x20) (LOp.eqr (LOp.mul rfl rfl rfl) (congrArg (ik .i64) hx10)) <|
      (tm rfl (i64 v8) <|
      (tl rfl (i64 x21) (LOp.eqr (LOp.add rfl rfl rfl) (congrArg (ik .i64) hx11)) <|
      (tm rfl (ptr (z02g a0 a1 a2)) <|
      (tl rfl (ptr (z02g a0 a1 a2)) n4 <|
      (tl rfl (ptr [(sFc a2)]) (LOp.fap und91 rfl siz23 rfl rfl rfl) <|
      (tl rfl (sFc a2) (n2 agg23) <|
      (tm rfl (i64 v8) <|
      (tm rfl (ptr (z02g a0 a1 a2)) <|
      (tl rfl (ptr (z02g a0 a1 a2)) n4 <|
      (tl rfl (ptr (z02g a0 a1 a2)) (LOp.fap und91 rfl siz2 rfl rfl rfl) <|
      (tl rfl (i64 a0) (n2 agg2) <|
      (tl rfl (i64 x22) (LOp.eqr (LOp.mul rfl rfl rfl) (congrArg (ik .i64) hx12)) <|
      (tm rfl (i64 v13) <|
      (tl rfl (i64 x23) (LOp.eqr (LOp.add rfl rfl rfl) (congrArg (ik .i64) hx13)) <|
      (tl rfl (ptr [f32 e24]) (LOp.le (LOp.ix (f := f32) und23 siz26 rfl rfl rfl rfl he14) ALe.ptr) <|
      (tl rfl (f32 e24) (n2 agg26) <|
      (TR.d (r := optr 2 1 x21.toNat) (fs := []) rfl rfl (TOp.ixo und23 siz26 rfl rfl rfl (set_in he15 hl12) rfl) <|
      TR.nil))))))))))))))))))))))))) rfl (by kernel_rfl) rfl fills_nil rfl ?_
     iterate 25 refine ROps.dropS ?_
     refine ROps.drop0<|ROps.st (f := f32) (i := x21) (Γ' := [z02i, ⟨1, some (L19.map b)⟩, oF 1 L25, ⟨1, some (z02h r1 r2 r3)⟩]) rfl siz26 rfl rfl rfl aR rfl rfl rfl he15 rfl<|zN ?_
     refine RunC.wl (τ' := [(0, ptr (z02g a0 a1 a2)), (2, optr 0 1 0), (3, optr 3 1 0), (4, i64 v8), (5, i64 v13)]) (Γ' := [z02i, ⟨1, some (L19.map b)⟩, oF 1 L25, ⟨1, some (z02h r1 r2 r3)⟩]) ⟨aR, aR, aR, aR, aR, trivial⟩ ⟨dR, dR, dR, dR, trivial⟩ ?_
     obtain ⟨x26, hx16, h5_⟩ := oL h5_
     refine yW<|ym rfl (i64 v13)<|yl rfl (i64 x26) (LOp.eqr (LOp.add rfl rfl rfl) (congrArg (ik .i64) hx16))<|ya rfl (i64 x26)<|zN ?_
     cases oI h5_
     exact ⟨_, rfl, ((setAt?_len he9).trans hl10), ((setAt?_len he15).trans hl12), ⟨aR, aR, aR, aR, aR, trivial⟩, ⟨dR, dR, dR, dR, trivial⟩⟩
    ·refine yW<|ym rfl (i64 v13)<|ym rfl (ptr (z02g a0 a1 a2))<|yl rfl (ptr (z02g a0 a1 a2)) n4<|yl rfl (ptr (z02g a0 a1 a2)) (LOp.fap und91 rfl siz2 rfl rfl rfl)<|yl rfl (i64 a0) (n2 agg2)<|yl rfl (b false) (LOp.eqb (LOp.lss rfl rfl rfl) hc3)<|zN ?_
     refine yF<|RunC.exit ?_
     cases oI h5_
     have hx := ho5 _ rfl
     exact ⟨L9, L11, hl10, hl12, ⟨aR, aR, aR, aR, trivial⟩, ⟨dR, dR, dR, dR, trivial⟩, hx⟩
   ·rintro τ6 Γ6 ⟨L27, L29, hl28, hl30, hw6, hd6, rfl⟩
    refine RunC.wl hw6 hd6 ?_
    replace h4_ : K1k_k2 v8 L27 L29 = some y4_ := h4_
    unfold K1k_k2 at h4_
    obtain ⟨x31, hx17, h4_⟩ := oL h4_
    refine yW<|ym rfl (i64 v8)<|yl rfl (i64 x31) (LOp.eqr (LOp.add rfl rfl rfl) (congrArg (ik .i64) hx17))<|ya rfl (i64 x31)<|zN ?_
    cases oI h4_
    exact ⟨_, rfl, hl28, hl30, ⟨aR, aR, aR, aR, trivial⟩, ⟨dR, dR, dR, dR, trivial⟩⟩
  ·refine yW<|ym rfl (i64 v8)<|ym rfl (ptr (z02g a0 a1 a2))<|yl rfl (ptr (z02g a0 a1 a2)) n4<|yl rfl (ptr (z02g a0 a1 a2)) (LOp.fap und91 rfl siz2 rfl rfl rfl)<|yl rfl (i64 a0) (n2 agg2)<|yl rfl (b false) (LOp.eqb (LOp.lss rfl rfl rfl) hc2)<|zN ?_
   refine yF<|RunC.exit ?_
   cases oI h4_
   have hx := ho4 _ rfl
   exact ⟨L4, L6, hl5, hl7, ⟨aR, aR, trivial⟩, ⟨dR, dR, dR, dR, trivial⟩, hx⟩
 ·rintro τ7 Γ7 ⟨L32, L34, hl33, hl35, hw7, hd7, rfl⟩
  refine RunC.wl hw7 hd7 ?_
  replace h : K1k_k3 r1 L32 L34 = some (q0, q1, q2) := h
  unfold K1k_k3 at h
  refine zQ<|yd rfl (agg (z02h r1 r2 r3)) (yA agg91 siz91)<|ys (agg (z02h r1 r2 r3)) (z02h r1 r2 r3) ([⟨1, some (z02h r1 r2 r3)⟩, ⟨1, some (L32.map b)⟩, oF 1 L34, ⟨1, some (z02h r1 r2 r3)⟩]) siz91<|zN ?_
  refine RunC.ret ?_
  have hq := oI h
  obtain ⟨hq0, hq⟩ := Prod.mk.inj hq
  obtain ⟨hq1, hq⟩ := Prod.mk.inj hq
  subst q0
  subst q1
  subst q2
  exact yB (agg [i64 r1, oref 1 1 0 L32.length, oref 2 1 0 L34.length]) [(1, 1), (2, 1)] (Res.eq (Res.one rfl (RV.cell agg91 siz91 rfl rfl rfl rfl)) (by first | rfl | (rw [(show L32.length = r2.length from hl33), (show L34.length = r3.length from hl35)] <;> rfl))) (SelL.arr0 (f := b) (fun _ => rfl) rfl (sA rfl trivial))

def K1l (a0 : Int) (a1 : List Int) (a2 : List Int) (a3 : List F) : Option (Int × Bool × (List Int) × (List Int) × (List F)) :=
 obind (K09 a0 a1 a2 a3) fun (r1 : Bool) =>
 bsel r1 (
  obind3 (K1j a0 a1 a2 a3) fun (r2 : Int) (r3 : List Bool) (r4 : List F) =>
  obind3 (K1k r2 r3 r4) fun (r5 : Int) (r6 : List Bool) (r7 : List F) =>
  obind5 (K0a r5 r6 r7) fun (r8 : Int) (r9 : Bool) (r10 : List Int) (r11 : List Int) (r12 : List F) =>
  some (r8, r9, r10, r11, r12)) (
  some (0, false, ([] : List Int), ([] : List Int), ([] : List F)))
abbrev z02j : Ob := ⟨1, some [i64 0, nilsl, nilsl, nilsl]⟩
abbrev z02k (r8 : Int) (r10 : List Int) (r11 : List Int) (r12 : List F) : List AV := [i64 r8, oref 1 2 0 r10.length, oref 2 2 0 r11.length, oref 3 2 0 r12.length]
abbrev z02l (r2 : Int) (r3 : List Bool) (r4 : List F) : List AV := [i64 r2, oref 1 1 0 r3.length, oref 2 1 0 r4.length]
abbrev z02m (r5 : Int) (r6 : List Bool) (r7 : List F) : List AV := [i64 r5, oref 4 1 0 r6.length, oref 5 1 0 r7.length]
theorem K1l_ok (a0 : Int) (a1 : List Int) (a2 : List Int) (a3 : List F) (q0 : Int) (q1 : Bool) (q2 : List Int) (q3 : List Int) (q4 : List F) (h : K1l a0 a1 a2 a3 = some (q0, q1, q2, q3, q4)) : Ev Try.prog 45 [agg [i64 a0, sl a1.length (a1.map i64), sl a2.length (a2.map i64), (sFc a3)]] [] (tup [agg [i64 q0, oref 0 0 0 q2.length, oref 1 0 0 q3.length, oref 2 0 0 q4.length], b q1]) [oJ 0 q2, oJ 0 q3, oF 0 q4] := by
 refine yE Try.func45 7 29 0 ([(0, agg [i64 a0, sl a1.length (a1.map i64), sl a2.length (a2.map i64), (sFc a3)])]) [o0, o0, o0, o0, o0, o0, o0] rfl ?_
 unfold K1l at h
 refine zQ<|yd rfl (ptr [i64 a0, sl a1.length (a1.map i64), sl a2.length (a2.map i64), (sFc a3)]) (TOp.box_s rfl rfl rfl)<|ye rfl (optr 0 1 0) ([z02j, o0, o0, o0, o0, o0, o0]) (TOp.alloc_o (g := o0) 0 rfl zer30 zok30 rfl)<|ya rfl (b false)<|zN ?_
 refine yS<|yS ?_
 obtain ⟨r1, hf1, h⟩ := oS h
 rcases oB h with ⟨hc2, h⟩ | ⟨hc2, h⟩
 ·refine yW<|yd rfl (b true) (TOp.eqb (TOp.callB (CallAs.func ent111 rfl rfl) (Bors.cons (Bor.ptr (bP (bS (bS (bS bN))))) bN) rfl rfl (K09_ok a0 a1 a2 a3 r1 hf1)) hc2)<|yl rfl (b false) n1<|zN ?_
  refine yF<|RunC.skip<|yS ?_
  obtain ⟨r2, r3, r4, hf3, h⟩ := obind3_some h
  refine yW<|ye rfl (agg (z02l r2 r3 r4)) ([z02j, ⟨1, some (r3.map b)⟩, oF 1 r4, o0, o0, o0, o0]) (TOp.callBN (ls := [(r3.map b), (r4.map f32)]) [1, 2] (CallAs.func ent74 rfl rfl) (Bors.cons (Bor.ptr (bP (bS (bS (bS bN))))) bN) rfl (K1j_ok a0 a1 a2 a3 r2 r3 r4 hf3) (and_all (lts0_map (f := b) (fun _ => rfl) _) (and_all (lts0_map (f := f32) (fun _ => rfl) _) rfl)) (and_all (noss_map (f := b) (fun _ => rfl) _) (and_all (noss_map (f := f32) (fun _ => rfl) _) rfl)) rfl (by decide) (ns_of ⟨⟨_, rfl⟩, ⟨_, rfl⟩, trivial⟩))<|ye rfl (optr 3 1 0) ([z02j, ⟨1, some (r3.map b)⟩, oF 1 r4, ⟨1, some [i64 0, nilsl, nilsl]⟩, o0, o0, o0]) (TOp.alloc_o (g := o0) 3 rfl zer91 zok91 rfl)<|ys (agg (z02l r2 r3 r4)) (z02l r2 r3 r4) ([z02j, ⟨1, some (r3.map b)⟩, oF 1 r4, ⟨1, some (z02l r2 r3 r4)⟩, o0, o0, o0]) siz91<|zN ?_
  refine yS ?_
  obtain ⟨r5, r6, r7, hf4, h⟩ := obind3_some h
  refine yW<|ye rfl (agg (z02m r5 r6 r7)) ([z02j, ⟨1, some (r3.map b)⟩, oF 1 r4, ⟨1, some (z02l r2 r3 r4)⟩, ⟨1, some (r6.map b)⟩, oF 1 r7, o0]) (TOp.callBN (ls := [(r6.map b), (r7.map f32)]) [4, 5] (CallAs.func ent120 rfl rfl) (Bors.cons (Bor.optr rfl (Bors.p (bP (Bors.cons (Bor.own (f := b) (fun _ => rfl) rfl rfl) (Bors.cons (Bor.own (f := f32) (fun _ => rfl) rfl rfl) bN)))) rfl) bN) rfl (K1k_ok r2 r3 r4 r5 r6 r7 hf4) (and_all (lts0_map (f := b) (fun _ => rfl) _) (and_all (lts0_map (f := f32) (fun _ => rfl) _) rfl)) (and_all (noss_map (f := b) (fun _ => rfl) _) (and_all (noss_map (f := f32) (fun _ => rfl) _) rfl)) rfl (by decide) (ns_of ⟨⟨_, rfl⟩, ⟨_, rfl⟩, trivial⟩))<|ye rfl (optr 6 1 0) ([z02j, ⟨1, some (r3.map b)⟩, oF 1 r4, ⟨1, some (z02l r2 r3 r4)⟩, ⟨1, some (r6.map b)⟩, oF 1 r7, ⟨1, some [i64 0, nilsl, nilsl]⟩]) (TOp.alloc_o (g := o0) 6 rfl zer91 zok91 rfl)<|ys (agg (z02m r5 r6 r7)) (z02m r5 r6 r7) ([z02j, ⟨1, some (r3.map b)⟩, oF 1 r4, ⟨1, some (z02l r2 r3 r4)⟩, ⟨1, some (r6.map b)⟩, oF 1 r7, ⟨1, some (z02m r5 r6 r7)⟩]) siz91<|zN ?_
  refine RunC.wl (τ' := [(2, optr 0 1 0), (5, optr 6 1 0)]) (Γ' := [z02j, ⟨1, none⟩, ⟨1, none⟩, ⟨1, none⟩, ⟨1, some (r6.map b)⟩, oF 1 r7, ⟨1, some (z02m r5 r6 r7)⟩]) ⟨aR, aR, trivial⟩ ⟨dR, dL, dL, dL, dR, dR, dR, trivial⟩<|yS ?_
  obtain ⟨r8, r9, r10, r11, r12, hf5, h⟩ := obind5_some h
  refine yW<|ye rfl (tup [agg (z02k r8 r10 r11 r12), b r9]) ([z02j, oJ 2 r10, oJ 2 r11, oF 2 r12, ⟨1, some (r6.map b)⟩, oF 1 r7, ⟨1, some (z02m r5 r6 r7)⟩]) (TOp.callBN (ls := [(r10.map i64), (r11.map i64), (r12.map f32)]) [1, 2, 3] (CallAs.func ent98 rfl rfl) (Bors.cons (Bor.optr rfl (Bors.p (bP (Bors.cons (Bor.own (f := b) (fun _ => rfl) rfl rfl) (Bors.cons (Bor.own (f := f32) (fun _ => rfl) rfl rfl) bN)))) rfl) bN) rfl (K0a_ok r5 r6 r7 r8 r9 r10 r11 r12 hf5) (and_all (lts0_map (f := i64) (fun _ => rfl) _) (and_all (lts0_map (f := i64) (fun _ => rfl) _) (and_all (lts0_map (f := f32) (fun _ => rfl) _) rfl))) (and_all (noss_map (f := i64) (fun _ => rfl) _) (and_all (noss_map (f := i64) (fun _ => rfl) _) (and_all (noss_map (f := f32) (fun _ => rfl) _) rfl))) rfl (by decide) (ns_of ⟨⟨_, rfl⟩, ⟨_, rfl⟩, ⟨_, rfl⟩, trivial⟩))<|yl rfl (agg (z02k r8 r10 r11 r12)) n3<|yl rfl (b r9) n3<|ys (agg (z02k r8 r10 r11 r12)) (z02k r8 r10 r11 r12) ([⟨1, some (z02k r8 r10 r11 r12)⟩, oJ 2 r10, oJ 2 r11, oF 2 r12, ⟨1, some (r6.map b)⟩, oF 1 r7, ⟨1, some (z02m r5 r6 r7)⟩]) siz30<|ya rfl (b r9)<|zN ?_
  refine RunC.ret ?_
  have hq := oI h
  obtain ⟨hq0, hq⟩ := Prod.mk.inj hq
  obtain ⟨hq1, hq⟩ := Prod.mk.inj hq
  obtain ⟨hq2, hq⟩ := Prod.mk.inj hq
  obtain ⟨hq3, hq⟩ := Prod.mk.inj hq
  subst q0
  subst q1
  subst q2
  subst q3
  subst q4
  exact yB (tup [agg (z02k r8 r10 r11 r12), b r9]) [(1, 2), (2, 2), (3, 2)] (Res.two rfl (RV.cell agg30 siz30 rfl rfl rfl rfl) (RV.tmp rfl)) (SelL.arr0 (f := i64) (fun _ => rfl) rfl (SelL.arr0 (f := i64) (fun _ => rfl) rfl (sA rfl trivial)))
 ·refine yW<|yd rfl (b false) (TOp.eqb (TOp.callB (CallAs.func ent111 rfl rfl) (Bors.cons (Bor.ptr (bP (bS (bS (bS bN))))) bN) rfl rfl (K09_ok a0 a1 a2 a3 r1 hf1)) hc2)<|yl rfl (b true) n0<|zN ?_
  refine yT<|zQ<|yl rfl (agg [i64 0, nilsl, nilsl, nilsl]) (LOp.build (qs := []) zer30 zok30 und30 plc30 rfl trivial rfl)<|ys (agg [i64 0, nilsl, nilsl, nilsl]) [i64 0, nilsl, nilsl, nilsl] ([z02j, o0, o0, o0, o0, o0, o0]) siz30<|ya rfl (b false)<|zN ?_
  refine RunC.nil_cell (l' := [i64 0, oref 1 1 0 0, nilsl, nilsl]) (Γ' := [⟨1, some [i64 0, oref 1 1 0 0, nilsl, nilsl]⟩, oJ 1 [], o0, o0, o0, o0, o0]) 0 1 1 rfl rfl rfl rfl rfl<|RunC.nil_cell (l' := [i64 0, oref 1 1 0 0, oref 2 1 0 0, nilsl]) (Γ' := [⟨1, some [i64 0, oref 1 1 0 0, oref 2 1 0 0, nilsl]⟩, oJ 1 [], oJ 1 [], o0, o0, o0, o0]) 0 2 2 rfl rfl rfl rfl rfl<|RunC.nil_cell (l' := [i64 0, oref 1 1 0 0, oref 2 1 0 0, oref 3 1 0 0]) (Γ' := [⟨1, some [i64 0, oref 1 1 0 0, oref 2 1 0 0, oref 3 1 0 0]⟩, oJ 1 [], oJ 1 [], oF 1 [], o0, o0, o0]) 0 3 3 rfl rfl rfl rfl rfl<|RunC.ret ?_
  have hq := oI h
  obtain ⟨hq0, hq⟩ := Prod.mk.inj hq
  obtain ⟨hq1, hq⟩ := Prod.mk.inj hq
  obtain ⟨hq2, hq⟩ := Prod.mk.inj hq
  obtain ⟨hq3, hq⟩ := Prod.mk.inj hq
  subst q0
  subst q1
  subst q2
  subst q3
  subst q4
  exact yB (tup [agg [i64 0, oref 1 1 0 (([] : List Int).length), oref 2 1 0 (([] : List Int).length), oref 3 1 0 (([] : List F).length)], b false]) [(1, 1), (2, 1), (3, 1)] (Res.eq (Res.two rfl (RV.cell agg30 siz30 rfl rfl rfl rfl) (RV.tmp rfl)) (by first | rfl | (rw [(show ([] : List Int).length = 0 from rfl), (show ([] : List F).length = 0 from rfl)] <;> rfl))) (SelL.arr0 (f := i64) (fun _ => rfl) rfl (SelL.arr0 (f := i64) (fun _ => rfl) rfl (sA rfl trivial)))
end
end Go.Proofs.Ytfhbfpdeafpelaa
