/- Generated. -/
import Derived.Test.YtcjbfpoaidjpaaaGreatDoorG1
namespace Go.Proofs.YtcjbfpoaidjpaaaGreatDoor
open Go Go.AM Go.AM.AV
set_option maxRecDepth 20000
set_option maxHeartbeats 4000000
set_option linter.unusedVariables false
set_option linter.unusedSimpArgs false
noncomputable def w_FnProducts_k2  : Option (Bool) :=
 some false
noncomputable def w_FnProducts_k6  : Option (Bool) :=
 some false
noncomputable def w_FnProducts_k10  : Option (Bool) :=
 some false
noncomputable def w_FnProducts_k12 (w77 : Bool) : Option (Bool) :=
 some w77
noncomputable def w_FnProducts_k8 (a0 : List Int) (a1 : List Int) : Option (Bool) :=
 obind (w_b10At a0 0 9) fun (r50 : Int) =>
 obind (s_B10Any a1 r50) fun (r51 : List (F × F)) =>
 obind2 (i_ComplexText r51) fun (r52 : ByteArray) (r53 : Bool) =>
 obind2 (i_ReadComplex r52) fun (r54 : Bool) (r55 : List (F × F)) =>
 obind (s_B10Number a0) fun (r56 : F) =>
 obind (i_BitsOf r56) fun (r57 : Int) =>
 obind2 (i_FromBits r57) fun (r58 : F) (r59 : Bool) =>
 obind2 (s_B10Complex a0) fun (r60 : F) (r61 : F) =>
 olet (fwiden r60) fun (x62 : F) =>
 olet (fwiden r61) fun (x63 : F) =>
 bsel r53 (
  bsel r54 (
   bsel r59 (
    obind (w_b10Same r55 r51) fun (r64 : Bool) =>
    bsel r64 (
     obind (s_SameNumber r58 r56) fun (r65 : Bool) =>
     bsel r65 (
      obind2 (i_NarrowComplex x62 x63) fun (r66 : F) (r67 : F) =>
      obind (i_SameComplex r66 r67 r60 r61) fun (r68 : Bool) =>
      bsel r68 (
       obind2 (i_ConjugateOf r60 r61) fun (r69 : F) (r70 : F) =>
       obind2 (i_ConjugateOf r69 r70) fun (r71 : F) (r72 : F) =>
       obind (i_SameComplex r71 r72 r60 r61) fun (r73 : Bool) =>
       bsel r73 (
        obind (i_IsFiniteComplex r60 r61) fun (r74 : Bool) =>
        obind (s_IsFinite r60) fun (r75 : Bool) =>
        bsel r75 (
         obind (s_IsFinite r61) fun (r76 : Bool) =>
         w_FnProducts_k12 (r74 == r76)) (
         w_FnProducts_k12 (r74 == false))) (
        w_FnProducts_k10)) (
       w_FnProducts_k10)) (
      w_FnProducts_k10)) (
     w_FnProducts_k10)) (
    w_FnProducts_k10)) (
   w_FnProducts_k10)) (
  w_FnProducts_k10)
noncomputable def w_FnProducts_k4 (a0 : List Int) (a1 : List Int) (e3 : (F × F)) (e5 : (F × F)) (r6 : F) (r7 : F) : Option (Bool) :=
 bsel (!(feq .f32 e5.1 (some 0) && feq .f32 e5.2 (some 0))) (
  obind2 (i_QuotientOf r6 r7 e5.1 e5.2) fun (r44 : F) (r45 : F) =>
  bsel (!(feq .f32 r44 e3.1 && feq .f32 r45 e3.2)) (
   w_FnProducts_k6) (
   obind2 (i_ScaleComplex e3.1 e3.2 (some 1073741824)) fun (r46 : F) (r47 : F) =>
   bsel (!(feq .f32 r46 (fop .add .f32 e3.1 e3.1) && feq .f32 r47 (fop .add .f32 e3.2 e3.2))) (
    w_FnProducts_k6) (
    w_FnProducts_k8 a0 a1))) (
  obind2 (i_ScaleComplex e3.1 e3.2 (some 1073741824)) fun (r48 : F) (r49 : F) =>
  bsel (!(feq .f32 r48 (fop .add .f32 e3.1 e3.1) && feq .f32 r49 (fop .add .f32 e3.2 e3.2))) (
   w_FnProducts_k6) (
   w_FnProducts_k8 a0 a1))
noncomputable def w_FnProducts (a0 : List Int) (a1 : List Int) : Option (Bool) :=
 obind (w_b10Long a0 a1) fun (r1 : Bool) =>
 bsel r1 (
  some true) (
  obind (s_B10Whole a0 1 200) fun (r2 : List (F × F)) =>
  obind (at? r2 0) fun (e3 : (F × F)) =>
  obind (s_B10Whole a1 1 200) fun (r4 : List (F × F)) =>
  obind (at? r4 0) fun (e5 : (F × F)) =>
  obind2 (i_MulComplex e3.1 e3.2 e5.1 e5.2) fun (r6 : F) (r7 : F) =>
  obind (ftoi .f32 .i64 e3.1) fun (y8 : Int) =>
  obind (ftoi .f32 .i64 e5.1) fun (y9 : Int) =>
  olet (IntKind.i64.wrap (y8 * y9)) fun (x10 : Int) =>
  obind (ftoi .f32 .i64 e3.2) fun (y11 : Int) =>
  obind (ftoi .f32 .i64 e5.2) fun (y12 : Int) =>
  olet (IntKind.i64.wrap (y11 * y12)) fun (x13 : Int) =>
  olet (IntKind.i64.wrap (x10 - x13)) fun (x14 : Int) =>
  obind (ftoi .f32 .i64 e3.1) fun (y15 : Int) =>
  obind (ftoi .f32 .i64 e5.2) fun (y16 : Int) =>
  olet (IntKind.i64.wrap (y15 * y16)) fun (x17 : Int) =>
  obind (ftoi .f32 .i64 e3.2) fun (y18 : Int) =>
  obind (ftoi .f32 .i64 e5.1) fun (y19 : Int) =>
  olet (IntKind.i64.wrap (y18 * y19)) fun (x20 : Int) =>
  olet (IntKind.i64.wrap (x17 + x20)) fun (x21 : Int) =>
  obind (ftoi .f32 .i64 e3.1) fun (y22 : Int) =>
  obind (ftoi .f32 .i64 e3.1) fun (y23 : Int) =>
  olet (IntKind.i64.wrap (y22 * y23)) fun (x24 : Int) =>
  obind (ftoi .f32 .i64 e3.2) fun (y25 : Int) =>
  obind (ftoi .f32 .i64 e3.2) fun (y26 : Int) =>
  olet (IntKind.i64.wrap (y25 * y26)) fun (x27 : Int) =>
  olet (IntKind.i64.wrap (x24 + x27)) fun (x28 : Int) =>
  olet (fint .f32 x14) fun (x29 : F) =>
  olet (fint .f32 x21) fun (x30 : F) =>
  bsel (!(feq .f32 r6 x29 && feq .f32 r7 x30)) (
   w_FnProducts_k2) (
   obind2 (i_MulComplex e5.1 e5.2 e3.1 e3.2) fun (r31 : F) (r32 : F) =>
   bsel (!(feq .f32 r31 r6 && feq .f32 r32 r7)) (
    w_FnProducts_k2) (
    obind (i_PowerOf e3.1 e3.2) fun (r33 : F) =>
    olet (fint .f32 x28) fun (x34 : F) =>
    bsel (!feq .f32 r33 x34) (
     w_FnProducts_k2) (
     obind2 (i_ConjugateOf e3.1 e3.2) fun (r35 : F) (r36 : F) =>
     obind2 (i_MulComplex e3.1 e3.2 r35 r36) fun (r37 : F) (r38 : F) =>
     olet (fint .f32 x28) fun (x39 : F) =>
     bsel (!(feq .f32 r37 x39 && feq .f32 r38 (some 0))) (
      w_FnProducts_k2) (
      obind (i_LongOf e3.1 e3.2) fun (r40 : F) =>
      olet (fint .f32 x28) fun (x41 : F) =>
      obind (s_RootNumber x41) fun (r42 : F) =>
      obind (s_SameNumber r40 r42) fun (r43 : Bool) =>
      bsel r43 (
       w_FnProducts_k4 a0 a1 e3 e5 r6 r7) (
       w_FnProducts_k2))))))
theorem w_FnProducts_ok (a0 : List Int) (a1 : List Int) (q0 : Bool) (h : w_FnProducts a0 a1 = some q0) : Ev Tryz.prog 3 [sl a0.length (a0.map (ik .u8)), sl a1.length (a1.map (ik .u8))] [] (b q0) [] := by
 refine Ev.start Tryz.func3 rfl rfl 0 (τ := [(0, sl a0.length (a0.map (ik .u8))), (1, sl a1.length (a1.map (ik .u8)))]) rfl (Γ' := []) rfl (n := 423) rfl (g := 0) rfl (fun _ => rfl) ?_
 unfold w_FnProducts at h
 refine zQ ?_
 refine za (r := b false) ?_
 refine zN ?_
 iterate 2 (refine RunC.seq ?_)
 obtain ⟨r1, hf1, h⟩ := obind_some h
 rcases bsel_some h with ⟨hc2, h⟩ | ⟨hc2, h⟩
 ·refine RunC.regionW ?_
  refine zm (r := sl a0.length (a0.map (ik .u8))) ?_
  refine zm (r := sl a1.length (a1.map (ik .u8))) ?_
  refine ROps.d (r := b true) (fs := []) (Γ' := []) rfl rfl rfl (TOp.eqb (TOp.callB (CallAs.func ent5 rfl rfl) (Bors.cons (Bor.sl (fun _ => rfl)) (Bors.cons (Bor.sl (fun _ => rfl)) Bors.nil)) rfl rfl (w_b10Long_ok a0 a1 r1 hf1)) hc2) rfl ?_
  refine zN ?_
  refine RunC.cond_true rfl rfl ?_
  refine zQ ?_
  refine za (r := b true) ?_
  refine zN ?_
  refine RunC.ret ?_
  have hq := Option.some.inj h
  subst q0
  exact bodyQ.pure (.inr rfl) rfl (Res.one rfl (RV.tmp rfl))
 ·refine RunC.regionW ?_
  refine zm (r := sl a0.length (a0.map (ik .u8))) ?_
  refine zm (r := sl a1.length (a1.map (ik .u8))) ?_
  refine ROps.d (r := b false) (fs := []) (Γ' := []) rfl rfl rfl (TOp.eqb (TOp.callB (CallAs.func ent5 rfl rfl) (Bors.cons (Bor.sl (fun _ => rfl)) (Bors.cons (Bor.sl (fun _ => rfl)) Bors.nil)) rfl rfl (w_b10Long_ok a0 a1 r1 hf1)) hc2) rfl ?_
  refine zN ?_
  refine RunC.cond_false rfl rfl ?_
  refine RunC.skip ?_
  refine RunC.seq ?_
  obtain ⟨r2, hf3, h⟩ := obind_some h
  obtain ⟨e3, he4, h⟩ := obind_some h
  refine RunC.regionW ?_
  refine zm (r := sl a0.length (a0.map (ik .u8))) ?_
  refine ROps.d (r := sl r2.length (r2.map (cp .f32))) (fs := []) (Γ' := []) rfl rfl rfl (TOp.callS (CallAs.func ent6 rfl rfl) (ALes.cons aR (ALes.cons aR (ALes.cons aR ALes.nil))) (lts_cons (lt_sl (fun _ => rfl)) (lts_cons rfl (lts_cons rfl lts_nil))) (lt_sl (fun _ => rfl)) (s_B10Whole_ok a0 1 200 r2 hf3) (Bor.own (f := (cp .f32)) (fun _ => rfl) rfl rfl)) rfl ?_
  refine zl (r := ptr [cx .f32 e3.1 e3.2]) (LOp.le (LOp.ix (f := (cp .f32)) und25 siz24 rfl rfl rfl rfl he4) ALe.ptr) ?_
  refine zl (r := cx .f32 e3.1 e3.2) (LOp.load1 agg24 rfl rfl) ?_
  refine za (r := cx .f32 e3.1 e3.2) ?_
  refine zN ?_
  refine RunC.seq ?_
  obtain ⟨r4, hf5, h⟩ := obind_some h
  obtain ⟨e5, he6, h⟩ := obind_some h
  refine RunC.regionW ?_
  refine zm (r := sl a1.length (a1.map (ik .u8))) ?_
  refine ROps.d (r := sl r4.length (r4.map (cp .f32))) (fs := []) (Γ' := []) rfl rfl rfl (TOp.callS (CallAs.func ent6 rfl rfl) (ALes.cons aR (ALes.cons aR (ALes.cons aR ALes.nil))) (lts_cons (lt_sl (fun _ => rfl)) (lts_cons rfl (lts_cons rfl lts_nil))) (lt_sl (fun _ => rfl)) (s_B10Whole_ok a1 1 200 r4 hf5) (Bor.own (f := (cp .f32)) (fun _ => rfl) rfl rfl)) rfl ?_
  refine zl (r := ptr [cx .f32 e5.1 e5.2]) (LOp.le (LOp.ix (f := (cp .f32)) und25 siz24 rfl rfl rfl rfl he6) ALe.ptr) ?_
  refine zl (r := cx .f32 e5.1 e5.2) (LOp.load1 agg24 rfl rfl) ?_
  refine za (r := cx .f32 e5.1 e5.2) ?_
  refine zN ?_
  refine RunC.seq ?_
  obtain ⟨r6, r7, hf7, h⟩ := obind2_some h
  refine RunC.regionW ?_
  refine zm (r := cx .f32 e3.1 e3.2) ?_
  refine zm (r := cx .f32 e5.1 e5.2) ?_
  refine ROps.d (r := cx .f32 r6 r7) (fs := []) (Γ' := []) rfl rfl rfl (TOp.callB (CallAs.func ent7 rfl rfl) (Bors.cons (Bor.pure rfl) (Bors.cons (Bor.pure rfl) Bors.nil)) rfl rfl (i_MulComplex_ok e3.1 e3.2 e5.1 e5.2 r6 r7 hf7)) rfl ?_
  refine za (r := cx .f32 r6 r7) ?_
  refine zN ?_
  refine RunC.seq ?_
  obtain ⟨y8, hy8, h⟩ := obind_some h
  obtain ⟨y9, hy9, h⟩ := obind_some h
  obtain ⟨x10, hx10, h⟩ := olet_some h
  obtain ⟨y11, hy11, h⟩ := obind_some h
  obtain ⟨y12, hy12, h⟩ := obind_some h
  obtain ⟨x13, hx13, h⟩ := olet_some h
  obtain ⟨x14, hx14, h⟩ := olet_some h
  refine RunC.regionW ?_
  refine zm (r := cx .f32 e3.1 e3.2) ?_
  refine zl (r := f32 e3.1) (LOp.real rfl rfl) ?_
  refine zl (r := i64 y8) (LOp.f2i (src := 28) (dst := 2) ⟨_, pun28⟩ pun2 rfl (OpF.tmp rfl) hy8) ?_
  refine zm (r := cx .f32 e5.1 e5.2) ?_
  refine zl (r := f32 e5.1) (LOp.real rfl rfl) ?_
  refine zl (r := i64 y9) (LOp.f2i (src := 28) (dst := 2) ⟨_, pun28⟩ pun2 rfl (OpF.tmp rfl) hy9) ?_
  refine zl (r := i64 x10) (LOp.eqr (LOp.mul rfl rfl rfl) (congrArg (ik .i64) hx10)) ?_
  refine zm (r := cx .f32 e3.1 e3.2) ?_
  refine zl (r := f32 e3.2) (LOp.imag rfl rfl) ?_
  refine zl (r := i64 y11) (LOp.f2i (src := 28) (dst := 2) ⟨_, pun28⟩ pun2 rfl (OpF.tmp rfl) hy11) ?_
  refine zm (r := cx .f32 e5.1 e5.2) ?_
  refine zl (r := f32 e5.2) (LOp.imag rfl rfl) ?_
  refine zl (r := i64 y12) (LOp.f2i (src := 28) (dst := 2) ⟨_, pun28⟩ pun2 rfl (OpF.tmp rfl) hy12) ?_
  refine zl (r := i64 x13) (LOp.eqr (LOp.mul rfl rfl rfl) (congrArg (ik .i64) hx13)) ?_
  refine zl (r := i64 x14) (LOp.eqr (LOp.sub rfl rfl rfl) (congrArg (ik .i64) hx14)) ?_
  refine za (r := i64 x14) ?_
  refine zN ?_
  refine RunC.seq ?_
  obtain ⟨y15, hy15, h⟩ := obind_some h
  obtain ⟨y16, hy16, h⟩ := obind_some h
  obtain ⟨x17, hx17, h⟩ := olet_some h
  obtain ⟨y18, hy18, h⟩ := obind_some h
  obtain ⟨y19, hy19, h⟩ := obind_some h
  obtain ⟨x20, hx20, h⟩ := olet_some h
  obtain ⟨x21, hx21, h⟩ := olet_some h
  refine RunC.regionW ?_
  refine zm (r := cx .f32 e3.1 e3.2) ?_
  refine zl (r := f32 e3.1) (LOp.real rfl rfl) ?_
  refine zl (r := i64 y15) (LOp.f2i (src := 28) (dst := 2) ⟨_, pun28⟩ pun2 rfl (OpF.tmp rfl) hy15) ?_
  refine zm (r := cx .f32 e5.1 e5.2) ?_
  refine zl (r := f32 e5.2) (LOp.imag rfl rfl) ?_
  refine zl (r := i64 y16) (LOp.f2i (src := 28) (dst := 2) ⟨_, pun28⟩ pun2 rfl (OpF.tmp rfl) hy16) ?_
  refine zl (r := i64 x17) (LOp.eqr (LOp.mul rfl rfl rfl) (congrArg (ik .i64) hx17)) ?_
  refine zm (r := cx .f32 e3.1 e3.2) ?_
  refine zl (r := f32 e3.2) (LOp.imag rfl rfl) ?_
  refine zl (r := i64 y18) (LOp.f2i (src := 28) (dst := 2) ⟨_, pun28⟩ pun2 rfl (OpF.tmp rfl) hy18) ?_
  refine zm (r := cx .f32 e5.1 e5.2) ?_
  refine zl (r := f32 e5.1) (LOp.real rfl rfl) ?_
  refine zl (r := i64 y19) (LOp.f2i (src := 28) (dst := 2) ⟨_, pun28⟩ pun2 rfl (OpF.tmp rfl) hy19) ?_
  refine zl (r := i64 x20) (LOp.eqr (LOp.mul rfl rfl rfl) (congrArg (ik .i64) hx20)) ?_
  refine zl (r := i64 x21) (LOp.eqr (LOp.add rfl rfl rfl) (congrArg (ik .i64) hx21)) ?_
  refine za (r := i64 x21) ?_
  refine zN ?_
  refine RunC.seq ?_
  obtain ⟨y22, hy22, h⟩ := obind_some h
  obtain ⟨y23, hy23, h⟩ := obind_some h
  obtain ⟨x24, hx24, h⟩ := olet_some h
  obtain ⟨y25, hy25, h⟩ := obind_some h
  obtain ⟨y26, hy26, h⟩ := obind_some h
  obtain ⟨x27, hx27, h⟩ := olet_some h
  obtain ⟨x28, hx28, h⟩ := olet_some h
  refine RunC.regionW ?_
  refine zm (r := cx .f32 e3.1 e3.2) ?_
  refine zl (r := f32 e3.1) (LOp.real rfl rfl) ?_
  refine zl (r := i64 y22) (LOp.f2i (src := 28) (dst := 2) ⟨_, pun28⟩ pun2 rfl (OpF.tmp rfl) hy22) ?_
  refine zm (r := cx .f32 e3.1 e3.2) ?_
  refine zl (r := f32 e3.1) (LOp.real rfl rfl) ?_
  refine zl (r := i64 y23) (LOp.f2i (src := 28) (dst := 2) ⟨_, pun28⟩ pun2 rfl (OpF.tmp rfl) hy23) ?_
  refine zl (r := i64 x24) (LOp.eqr (LOp.mul rfl rfl rfl) (congrArg (ik .i64) hx24)) ?_
  refine zm (r := cx .f32 e3.1 e3.2) ?_
  refine zl (r := f32 e3.2) (LOp.imag rfl rfl) ?_
  refine zl (r := i64 y25) (LOp.f2i (src := 28) (dst := 2) ⟨_, pun28⟩ pun2 rfl (OpF.tmp rfl) hy25) ?_
  refine zm (r := cx .f32 e3.1 e3.2) ?_
  refine zl (r := f32 e3.2) (LOp.imag rfl rfl) ?_
  refine zl (r := i64 y26) (LOp.f2i (src := 28) (dst := 2) ⟨_, pun28⟩ pun2 rfl (OpF.tmp rfl) hy26) ?_
  refine zl (r := i64 x27) (LOp.eqr (LOp.mul rfl rfl rfl) (congrArg (ik .i64) hx27)) ?_
  refine zl (r := i64 x28) (LOp.eqr (LOp.add rfl rfl rfl) (congrArg (ik .i64) hx28)) ?_
  refine za (r := i64 x28) ?_
  refine zN ?_
  iterate 2 (refine RunC.seq ?_)
  refine RunC.cutN (fun τ Γ => ( Le 423 τ Γ [(0, sl a0.length (a0.map (ik .u8))), (1, sl a1.length (a1.map (ik .u8))), (5, cx .f32 e3.1 e3.2), (6, cx .f32 e5.1 e5.2), (7, cx .f32 r6 r7), (119, b true)] [] ∧ w_FnProducts_k2 = some q0) ∨ ( Le 423 τ Γ [(0, sl a0.length (a0.map (ik .u8))), (1, sl a1.length (a1.map (ik .u8))), (5, cx .f32 e3.1 e3.2), (6, cx .f32 e5.1 e5.2), (7, cx .f32 r6 r7), (119, b false)] [] ∧ w_FnProducts_k4 a0 a1 e3 e5 r6 r7 = some q0)) ?_ ?_
  ·obtain ⟨x29, hx29, h⟩ := olet_some h
   obtain ⟨x30, hx30, h⟩ := olet_some h
   rcases bsel_some h with ⟨hc31, h⟩ | ⟨hc31, h⟩
   ·refine RunC.regionW ?_
    refine zm (r := cx .f32 r6 r7) ?_
    refine zm (r := i64 x14) ?_
    refine zl (r := f32 x29) (LOp.eqr (LOp.i2f (src := 2) (dst := 28) ⟨_, pun2⟩ pun28 rfl rfl) (congrArg (f .f32) hx29)) ?_
    refine zm (r := i64 x21) ?_
    refine zl (r := f32 x30) (LOp.eqr (LOp.i2f (src := 2) (dst := 28) ⟨_, pun2⟩ pun28 rfl rfl) (congrArg (f .f32) hx30)) ?_
    refine zl (r := cx .f32 x29 x30) (LOp.complex rfl (OpF.tmp rfl) (OpF.tmp rfl)) ?_
    refine zl (r := b true) (LOp.eqb (LOp.cne rfl (OpC.tmp rfl) (OpC.tmp rfl)) hc31) ?_
    iterate 2 (refine zm (r := b true) ?_; refine ROps.s rfl rfl rfl ?_; refine ROps.s rfl rfl rfl ?_; refine ROps.s rfl rfl rfl ?_; refine ROps.s rfl rfl rfl ?_; refine ROps.s rfl rfl rfl ?_; refine zl (r := b true) (LOp.pick_true rfl rfl rfl) ?_)
    refine zm (r := b true) ?_
    iterate 8 (refine ROps.s rfl rfl rfl ?_)
    refine zl (r := b true) (LOp.pick_true rfl rfl rfl) ?_
    refine zm (r := b true) ?_
    iterate 7 (refine ROps.s rfl rfl rfl ?_)
    refine zl (r := b true) (LOp.pick_true rfl rfl rfl) ?_
    refine zN ?_
    exact .inl ⟨(Le.of ⟨aR, aR, aR, aR, aR, aR, trivial⟩ trivial), h⟩
   ·obtain ⟨r31, r32, hf32, h⟩ := obind2_some h
    rcases bsel_some h with ⟨hc33, h⟩ | ⟨hc33, h⟩
    ·refine RunC.regionW ?_
     refine zm (r := cx .f32 r6 r7) ?_
     refine zm (r := i64 x14) ?_
     refine zl (r := f32 x29) (LOp.eqr (LOp.i2f (src := 2) (dst := 28) ⟨_, pun2⟩ pun28 rfl rfl) (congrArg (f .f32) hx29)) ?_
     refine zm (r := i64 x21) ?_
     refine zl (r := f32 x30) (LOp.eqr (LOp.i2f (src := 2) (dst := 28) ⟨_, pun2⟩ pun28 rfl rfl) (congrArg (f .f32) hx30)) ?_
     refine zl (r := cx .f32 x29 x30) (LOp.complex rfl (OpF.tmp rfl) (OpF.tmp rfl)) ?_
     refine zl (r := b false) (LOp.eqb (LOp.cne rfl (OpC.tmp rfl) (OpC.tmp rfl)) hc31) ?_
     refine zm (r := b false) ?_
     refine zm (r := cx .f32 e5.1 e5.2) ?_
     refine zm (r := cx .f32 e3.1 e3.2) ?_
     refine ROps.d (r := cx .f32 r31 r32) (fs := []) (Γ' := []) rfl rfl rfl (TOp.callB (CallAs.func ent7 rfl rfl) (Bors.cons (Bor.pure rfl) (Bors.cons (Bor.pure rfl) Bors.nil)) rfl rfl (i_MulComplex_ok e5.1 e5.2 e3.1 e3.2 r31 r32 hf32)) rfl ?_
     refine zm (r := cx .f32 r6 r7) ?_
     refine zl (r := b true) (LOp.eqb (LOp.cne rfl (OpC.tmp rfl) (OpC.tmp rfl)) hc33) ?_
     refine zl (r := b true) (LOp.pick_false rfl rfl rfl) ?_
     refine zm (r := b true) ?_
     iterate 5 (refine ROps.s rfl rfl rfl ?_)
     refine zl (r := b true) (LOp.pick_true rfl rfl rfl) ?_
     refine zm (r := b true) ?_
     iterate 8 (refine ROps.s rfl rfl rfl ?_)
     refine zl (r := b true) (LOp.pick_true rfl rfl rfl) ?_
     refine zm (r := b true) ?_
     iterate 7 (refine ROps.s rfl rfl rfl ?_)
     refine zl (r := b true) (LOp.pick_true rfl rfl rfl) ?_
     refine zN ?_
     exact .inl ⟨(Le.of ⟨aR, aR, aR, aR, aR, aR, trivial⟩ trivial), h⟩
    ·obtain ⟨r33, hf34, h⟩ := obind_some h
     obtain ⟨x34, hx35, h⟩ := olet_some h
     rcases bsel_some h with ⟨hc36, h⟩ | ⟨hc36, h⟩
     ·refine RunC.regionW ?_
      refine zm (r := cx .f32 r6 r7) ?_
      refine zm (r := i64 x14) ?_
      refine zl (r := f32 x29) (LOp.eqr (LOp.i2f (src := 2) (dst := 28) ⟨_, pun2⟩ pun28 rfl rfl) (congrArg (f .f32) hx29)) ?_
      refine zm (r := i64 x21) ?_
      refine zl (r := f32 x30) (LOp.eqr (LOp.i2f (src := 2) (dst := 28) ⟨_, pun2⟩ pun28 rfl rfl) (congrArg (f .f32) hx30)) ?_
      refine zl (r := cx .f32 x29 x30) (LOp.complex rfl (OpF.tmp rfl) (OpF.tmp rfl)) ?_
      refine zl (r := b false) (LOp.eqb (LOp.cne rfl (OpC.tmp rfl) (OpC.tmp rfl)) hc31) ?_
      refine zm (r := b false) ?_
      refine zm (r := cx .f32 e5.1 e5.2) ?_
      refine zm (r := cx .f32 e3.1 e3.2) ?_
      refine ROps.d (r := cx .f32 r31 r32) (fs := []) (Γ' := []) rfl rfl rfl (TOp.callB (CallAs.func ent7 rfl rfl) (Bors.cons (Bor.pure rfl) (Bors.cons (Bor.pure rfl) Bors.nil)) rfl rfl (i_MulComplex_ok e5.1 e5.2 e3.1 e3.2 r31 r32 hf32)) rfl ?_
      refine zm (r := cx .f32 r6 r7) ?_
      refine zl (r := b false) (LOp.eqb (LOp.cne rfl (OpC.tmp rfl) (OpC.tmp rfl)) hc33) ?_
      refine zl (r := b false) (LOp.pick_false rfl rfl rfl) ?_
      refine zm (r := b false) ?_
      refine zm (r := cx .f32 e3.1 e3.2) ?_
      refine ROps.d (r := f32 r33) (fs := []) (Γ' := []) rfl rfl rfl (TOp.callB (CallAs.func ent8 rfl rfl) (Bors.cons (Bor.pure rfl) Bors.nil) rfl rfl (i_PowerOf_ok e3.1 e3.2 r33 hf34)) rfl ?_
      refine zm (r := i64 x28) ?_
      refine zl (r := f32 x34) (LOp.eqr (LOp.i2f (src := 2) (dst := 28) ⟨_, pun2⟩ pun28 rfl rfl) (congrArg (f .f32) hx35)) ?_
      refine zl (r := b true) (LOp.eqb (LOp.fne rfl (OpF.tmp rfl) (OpF.tmp rfl)) hc36) ?_
      refine zl (r := b true) (LOp.pick_false rfl rfl rfl) ?_
      refine zm (r := b true) ?_
      iterate 8 (refine ROps.s rfl rfl rfl ?_)
      refine zl (r := b true) (LOp.pick_true rfl rfl rfl) ?_
      refine zm (r := b true) ?_
      iterate 7 (refine ROps.s rfl rfl rfl ?_)
      refine zl (r := b true) (LOp.pick_true rfl rfl rfl) ?_
      refine zN ?_
      exact .inl ⟨(Le.of ⟨aR, aR, aR, aR, aR, aR, trivial⟩ trivial), h⟩
     ·obtain ⟨r35, r36, hf37, h⟩ := obind2_some h
      obtain ⟨r37, r38, hf38, h⟩ := obind2_some h
      obtain ⟨x39, hx39, h⟩ := olet_some h
      rcases bsel_some h with ⟨hc40, h⟩ | ⟨hc40, h⟩
      ·refine RunC.regionW ?_
       refine zm (r := cx .f32 r6 r7) ?_
       refine zm (r := i64 x14) ?_
       refine zl (r := f32 x29) (LOp.eqr (LOp.i2f (src := 2) (dst := 28) ⟨_, pun2⟩ pun28 rfl rfl) (congrArg (f .f32) hx29)) ?_
       refine zm (r := i64 x21) ?_
       refine zl (r := f32 x30) (LOp.eqr (LOp.i2f (src := 2) (dst := 28) ⟨_, pun2⟩ pun28 rfl rfl) (congrArg (f .f32) hx30)) ?_
       refine zl (r := cx .f32 x29 x30) (LOp.complex rfl (OpF.tmp rfl) (OpF.tmp rfl)) ?_
       refine zl (r := b false) (LOp.eqb (LOp.cne rfl (OpC.tmp rfl) (OpC.tmp rfl)) hc31) ?_
       refine zm (r := b false) ?_
       refine zm (r := cx .f32 e5.1 e5.2) ?_
       refine zm (r := cx .f32 e3.1 e3.2) ?_
       refine ROps.d (r := cx .f32 r31 r32) (fs := []) (Γ' := []) rfl rfl rfl (TOp.callB (CallAs.func ent7 rfl rfl) (Bors.cons (Bor.pure rfl) (Bors.cons (Bor.pure rfl) Bors.nil)) rfl rfl (i_MulComplex_ok e5.1 e5.2 e3.1 e3.2 r31 r32 hf32)) rfl ?_
       refine zm (r := cx .f32 r6 r7) ?_
       refine zl (r := b false) (LOp.eqb (LOp.cne rfl (OpC.tmp rfl) (OpC.tmp rfl)) hc33) ?_
       refine zl (r := b false) (LOp.pick_false rfl rfl rfl) ?_
       refine zm (r := b false) ?_
       refine zm (r := cx .f32 e3.1 e3.2) ?_
       refine ROps.d (r := f32 r33) (fs := []) (Γ' := []) rfl rfl rfl (TOp.callB (CallAs.func ent8 rfl rfl) (Bors.cons (Bor.pure rfl) Bors.nil) rfl rfl (i_PowerOf_ok e3.1 e3.2 r33 hf34)) rfl ?_
       refine zm (r := i64 x28) ?_
       refine zl (r := f32 x34) (LOp.eqr (LOp.i2f (src := 2) (dst := 28) ⟨_, pun2⟩ pun28 rfl rfl) (congrArg (f .f32) hx35)) ?_
       refine zl (r := b false) (LOp.eqb (LOp.fne rfl (OpF.tmp rfl) (OpF.tmp rfl)) hc36) ?_
       refine zl (r := b false) (LOp.pick_false rfl rfl rfl) ?_
       refine zm (r := b false) ?_
       iterate 2 (refine zm (r := cx .f32 e3.1 e3.2) ?_)
       refine ROps.d (r := cx .f32 r35 r36) (fs := []) (Γ' := []) rfl rfl rfl (TOp.callB (CallAs.func ent9 rfl rfl) (Bors.cons (Bor.pure rfl) Bors.nil) rfl rfl (i_ConjugateOf_ok e3.1 e3.2 r35 r36 hf37)) rfl ?_
       refine ROps.d (r := cx .f32 r37 r38) (fs := []) (Γ' := []) rfl rfl rfl (TOp.callB (CallAs.func ent7 rfl rfl) (Bors.cons (Bor.pure rfl) (Bors.cons (Bor.pure rfl) Bors.nil)) rfl rfl (i_MulComplex_ok e3.1 e3.2 r35 r36 r37 r38 hf38)) rfl ?_
       refine zm (r := i64 x28) ?_
       refine zl (r := f32 x39) (LOp.eqr (LOp.i2f (src := 2) (dst := 28) ⟨_, pun2⟩ pun28 rfl rfl) (congrArg (f .f32) hx39)) ?_
       refine zl (r := cx .f32 x39 (some 0)) (LOp.complex rfl (OpF.tmp rfl) (OpF.const rfl (by kernel_rfl) (by kernel_rfl))) ?_
       refine zl (r := b true) (LOp.eqb (LOp.cne rfl (OpC.tmp rfl) (OpC.tmp rfl)) hc40) ?_
       refine zl (r := b true) (LOp.pick_false rfl rfl rfl) ?_
       refine zm (r := b true) ?_
       iterate 7 (refine ROps.s rfl rfl rfl ?_)
       refine zl (r := b true) (LOp.pick_true rfl rfl rfl) ?_
       refine zN ?_
       exact .inl ⟨(Le.of ⟨aR, aR, aR, aR, aR, aR, trivial⟩ trivial), h⟩
      ·obtain ⟨r40, hf41, h⟩ := obind_some h
       obtain ⟨x41, hx42, h⟩ := olet_some h
       obtain ⟨r42, hf43, h⟩ := obind_some h
       obtain ⟨r43, hf44, h⟩ := obind_some h
       rcases bsel_some h with ⟨hc45, h⟩ | ⟨hc45, h⟩
       ·refine RunC.regionW ?_
        refine zm (r := cx .f32 r6 r7) ?_
        refine zm (r := i64 x14) ?_
        refine zl (r := f32 x29) (LOp.eqr (LOp.i2f (src := 2) (dst := 28) ⟨_, pun2⟩ pun28 rfl rfl) (congrArg (f .f32) hx29)) ?_
        refine zm (r := i64 x21) ?_
        refine zl (r := f32 x30) (LOp.eqr (LOp.i2f (src := 2) (dst := 28) ⟨_, pun2⟩ pun28 rfl rfl) (congrArg (f .f32) hx30)) ?_
        refine zl (r := cx .f32 x29 x30) (LOp.complex rfl (OpF.tmp rfl) (OpF.tmp rfl)) ?_
        refine zl (r := b false) (LOp.eqb (LOp.cne rfl (OpC.tmp rfl) (OpC.tmp rfl)) hc31) ?_
        refine zm (r := b false) ?_
        refine zm (r := cx .f32 e5.1 e5.2) ?_
        refine zm (r := cx .f32 e3.1 e3.2) ?_
        refine ROps.d (r := cx .f32 r31 r32) (fs := []) (Γ' := []) rfl rfl rfl (TOp.callB (CallAs.func ent7 rfl rfl) (Bors.cons (Bor.pure rfl) (Bors.cons (Bor.pure rfl) Bors.nil)) rfl rfl (i_MulComplex_ok e5.1 e5.2 e3.1 e3.2 r31 r32 hf32)) rfl ?_
        refine zm (r := cx .f32 r6 r7) ?_
        refine zl (r := b false) (LOp.eqb (LOp.cne rfl (OpC.tmp rfl) (OpC.tmp rfl)) hc33) ?_
        refine zl (r := b false) (LOp.pick_false rfl rfl rfl) ?_
        refine zm (r := b false) ?_
        refine zm (r := cx .f32 e3.1 e3.2) ?_
        refine ROps.d (r := f32 r33) (fs := []) (Γ' := []) rfl rfl rfl (TOp.callB (CallAs.func ent8 rfl rfl) (Bors.cons (Bor.pure rfl) Bors.nil) rfl rfl (i_PowerOf_ok e3.1 e3.2 r33 hf34)) rfl ?_
        refine zm (r := i64 x28) ?_
        refine zl (r := f32 x34) (LOp.eqr (LOp.i2f (src := 2) (dst := 28) ⟨_, pun2⟩ pun28 rfl rfl) (congrArg (f .f32) hx35)) ?_
        refine zl (r := b false) (LOp.eqb (LOp.fne rfl (OpF.tmp rfl) (OpF.tmp rfl)) hc36) ?_
        refine zl (r := b false) (LOp.pick_false rfl rfl rfl) ?_
        refine zm (r := b false) ?_
        iterate 2 (refine zm (r := cx .f32 e3.1 e3.2) ?_)
        refine ROps.d (r := cx .f32 r35 r36) (fs := []) (Γ' := []) rfl rfl rfl (TOp.callB (CallAs.func ent9 rfl rfl) (Bors.cons (Bor.pure rfl) Bors.nil) rfl rfl (i_ConjugateOf_ok e3.1 e3.2 r35 r36 hf37)) rfl ?_
        refine ROps.d (r := cx .f32 r37 r38) (fs := []) (Γ' := []) rfl rfl rfl (TOp.callB (CallAs.func ent7 rfl rfl) (Bors.cons (Bor.pure rfl) (Bors.cons (Bor.pure rfl) Bors.nil)) rfl rfl (i_MulComplex_ok e3.1 e3.2 r35 r36 r37 r38 hf38)) rfl ?_
        refine zm (r := i64 x28) ?_
        refine zl (r := f32 x39) (LOp.eqr (LOp.i2f (src := 2) (dst := 28) ⟨_, pun2⟩ pun28 rfl rfl) (congrArg (f .f32) hx39)) ?_
        refine zl (r := cx .f32 x39 (some 0)) (LOp.complex rfl (OpF.tmp rfl) (OpF.const rfl (by kernel_rfl) (by kernel_rfl))) ?_
        refine zl (r := b false) (LOp.eqb (LOp.cne rfl (OpC.tmp rfl) (OpC.tmp rfl)) hc40) ?_
        refine zl (r := b false) (LOp.pick_false rfl rfl rfl) ?_
        refine zm (r := b false) ?_
        refine zm (r := cx .f32 e3.1 e3.2) ?_
        refine ROps.d (r := f32 r40) (fs := []) (Γ' := []) rfl rfl rfl (TOp.callB (CallAs.func ent11 rfl rfl) (Bors.cons (Bor.pure rfl) Bors.nil) rfl rfl (i_LongOf_ok e3.1 e3.2 r40 hf41)) rfl ?_
        refine zm (r := i64 x28) ?_
        refine zl (r := f32 x41) (LOp.eqr (LOp.i2f (src := 2) (dst := 28) ⟨_, pun2⟩ pun28 rfl rfl) (congrArg (f .f32) hx42)) ?_
        refine ROps.d (r := f32 r42) (fs := []) (Γ' := []) rfl rfl rfl (TOp.callB (CallAs.func ent12 rfl rfl) (Bors.cons (Bor.pure rfl) Bors.nil) rfl rfl (s_RootNumber_ok x41 r42 hf43)) rfl ?_
        refine ROps.d (r := b true) (fs := []) (Γ' := []) rfl rfl rfl (TOp.eqb (TOp.callB (CallAs.func ent10 rfl rfl) (Bors.cons (Bor.pure rfl) (Bors.cons (Bor.pure rfl) Bors.nil)) rfl rfl (s_SameNumber_ok r40 r42 r43 hf44)) hc45) rfl ?_
        refine zl (r := b false) (LOp.eqb (LOp.not rfl rfl) rfl) ?_
        refine zl (r := b false) (LOp.pick_false rfl rfl rfl) ?_
        refine zN ?_
        exact .inr (⟨(Le.of ⟨aR, aR, aR, aR, aR, aR, trivial⟩ trivial), h⟩)
       ·refine RunC.regionW ?_
        refine zm (r := cx .f32 r6 r7) ?_
        refine zm (r := i64 x14) ?_
        refine zl (r := f32 x29) (LOp.eqr (LOp.i2f (src := 2) (dst := 28) ⟨_, pun2⟩ pun28 rfl rfl) (congrArg (f .f32) hx29)) ?_
        refine zm (r := i64 x21) ?_
        refine zl (r := f32 x30) (LOp.eqr (LOp.i2f (src := 2) (dst := 28) ⟨_, pun2⟩ pun28 rfl rfl) (congrArg (f .f32) hx30)) ?_
        refine zl (r := cx .f32 x29 x30) (LOp.complex rfl (OpF.tmp rfl) (OpF.tmp rfl)) ?_
        refine zl (r := b false) (LOp.eqb (LOp.cne rfl (OpC.tmp rfl) (OpC.tmp rfl)) hc31) ?_
        refine zm (r := b false) ?_
        refine zm (r := cx .f32 e5.1 e5.2) ?_
        refine zm (r := cx .f32 e3.1 e3.2) ?_
        refine ROps.d (r := cx .f32 r31 r32) (fs := []) (Γ' := []) rfl rfl rfl (TOp.callB (CallAs.func ent7 rfl rfl) (Bors.cons (Bor.pure rfl) (Bors.cons (Bor.pure rfl) Bors.nil)) rfl rfl (i_MulComplex_ok e5.1 e5.2 e3.1 e3.2 r31 r32 hf32)) rfl ?_
        refine zm (r := cx .f32 r6 r7) ?_
        refine zl (r := b false) (LOp.eqb (LOp.cne rfl (OpC.tmp rfl) (OpC.tmp rfl)) hc33) ?_
        refine zl (r := b false) (LOp.pick_false rfl rfl rfl) ?_
        refine zm (r := b false) ?_
        refine zm (r := cx .f32 e3.1 e3.2) ?_
        refine ROps.d (r := f32 r33) (fs := []) (Γ' := []) rfl rfl rfl (TOp.callB (CallAs.func ent8 rfl rfl) (Bors.cons (Bor.pure rfl) Bors.nil) rfl rfl (i_PowerOf_ok e3.1 e3.2 r33 hf34)) rfl ?_
        refine zm (r := i64 x28) ?_
        refine zl (r := f32 x34) (LOp.eqr (LOp.i2f (src := 2) (dst := 28) ⟨_, pun2⟩ pun28 rfl rfl) (congrArg (f .f32) hx35)) ?_
        refine zl (r := b false) (LOp.eqb (LOp.fne rfl (OpF.tmp rfl) (OpF.tmp rfl)) hc36) ?_
        refine zl (r := b false) (LOp.pick_false rfl rfl rfl) ?_
        refine zm (r := b false) ?_
        iterate 2 (refine zm (r := cx .f32 e3.1 e3.2) ?_)
        refine ROps.d (r := cx .f32 r35 r36) (fs := []) (Γ' := []) rfl rfl rfl (TOp.callB (CallAs.func ent9 rfl rfl) (Bors.cons (Bor.pure rfl) Bors.nil) rfl rfl (i_ConjugateOf_ok e3.1 e3.2 r35 r36 hf37)) rfl ?_
        refine ROps.d (r := cx .f32 r37 r38) (fs := []) (Γ' := []) rfl rfl rfl (TOp.callB (CallAs.func ent7 rfl rfl) (Bors.cons (Bor.pure rfl) (Bors.cons (Bor.pure rfl) Bors.nil)) rfl rfl (i_MulComplex_ok e3.1 e3.2 r35 r36 r37 r38 hf38)) rfl ?_
        refine zm (r := i64 x28) ?_
        refine zl (r := f32 x39) (LOp.eqr (LOp.i2f (src := 2) (dst := 28) ⟨_, pun2⟩ pun28 rfl rfl) (congrArg (f .f32) hx39)) ?_
        refine zl (r := cx .f32 x39 (some 0)) (LOp.complex rfl (OpF.tmp rfl) (OpF.const rfl (by kernel_rfl) (by kernel_rfl))) ?_
        refine zl (r := b false) (LOp.eqb (LOp.cne rfl (OpC.tmp rfl) (OpC.tmp rfl)) hc40) ?_
        refine zl (r := b false) (LOp.pick_false rfl rfl rfl) ?_
        refine zm (r := b false) ?_
        refine zm (r := cx .f32 e3.1 e3.2) ?_
        refine ROps.d (r := f32 r40) (fs := []) (Γ' := []) rfl rfl rfl (TOp.callB (CallAs.func ent11 rfl rfl) (Bors.cons (Bor.pure rfl) Bors.nil) rfl rfl (i_LongOf_ok e3.1 e3.2 r40 hf41)) rfl ?_
        refine zm (r := i64 x28) ?_
        refine zl (r := f32 x41) (LOp.eqr (LOp.i2f (src := 2) (dst := 28) ⟨_, pun2⟩ pun28 rfl rfl) (congrArg (f .f32) hx42)) ?_
        refine ROps.d (r := f32 r42) (fs := []) (Γ' := []) rfl rfl rfl (TOp.callB (CallAs.func ent12 rfl rfl) (Bors.cons (Bor.pure rfl) Bors.nil) rfl rfl (s_RootNumber_ok x41 r42 hf43)) rfl ?_
        refine ROps.d (r := b false) (fs := []) (Γ' := []) rfl rfl rfl (TOp.eqb (TOp.callB (CallAs.func ent10 rfl rfl) (Bors.cons (Bor.pure rfl) (Bors.cons (Bor.pure rfl) Bors.nil)) rfl rfl (s_SameNumber_ok r40 r42 r43 hf44)) hc45) rfl ?_
        refine zl (r := b true) (LOp.eqb (LOp.not rfl rfl) rfl) ?_
        refine zl (r := b true) (LOp.pick_false rfl rfl rfl) ?_
        refine zN ?_
        exact .inl ⟨(Le.of ⟨aR, aR, aR, aR, aR, aR, trivial⟩ trivial), h⟩
  ·rintro τ13 Γ13 (⟨hw13, h⟩ | ⟨hw13, h⟩)
   ·refine RunC.le (τ' := [(0, sl a0.length (a0.map (ik .u8))), (1, sl a1.length (a1.map (ik .u8))), (5, cx .f32 e3.1 e3.2), (6, cx .f32 e5.1 e5.2), (7, cx .f32 r6 r7), (119, b true)]) (Γ' := []) hw13 ?_
    unfold w_FnProducts_k2 at h
    refine RunC.cond_true rfl rfl ?_
    refine zQ ?_
    refine za (r := b false) ?_
    refine zN ?_
    refine RunC.ret ?_
    have hq := Option.some.inj h
    subst q0
    exact bodyQ.pure (.inr rfl) rfl (Res.one rfl (RV.tmp rfl))
   ·refine RunC.le (τ' := [(0, sl a0.length (a0.map (ik .u8))), (1, sl a1.length (a1.map (ik .u8))), (5, cx .f32 e3.1 e3.2), (6, cx .f32 e5.1 e5.2), (7, cx .f32 r6 r7), (119, b false)]) (Γ' := []) hw13 ?_
    unfold w_FnProducts_k4 at h
    refine RunC.cond_false rfl rfl ?_
    refine RunC.skip ?_
    iterate 2 (refine RunC.seq ?_)
    refine RunC.cutN (fun τ Γ => ( Le 423 τ Γ [(0, sl a0.length (a0.map (ik .u8))), (1, sl a1.length (a1.map (ik .u8))), (136, b true)] [] ∧ w_FnProducts_k6 = some q0) ∨ ( Le 423 τ Γ [(0, sl a0.length (a0.map (ik .u8))), (1, sl a1.length (a1.map (ik .u8))), (136, b false)] [] ∧ w_FnProducts_k8 a0 a1 = some q0)) ?_ ?_
    ·rcases bsel_some h with ⟨hc46, h⟩ | ⟨hc46, h⟩
     ·obtain ⟨r44, r45, hf47, h⟩ := obind2_some h
      rcases bsel_some h with ⟨hc48, h⟩ | ⟨hc48, h⟩
      ·refine RunC.regionW ?_
       refine zm (r := cx .f32 e5.1 e5.2) ?_
       refine zl (r := b true) (LOp.eqb (LOp.cne rfl (OpC.tmp rfl) (OpC.const rfl (by kernel_rfl) (by kernel_rfl) (by kernel_rfl) (by kernel_rfl))) hc46) ?_
       refine zm (r := b true) ?_
       refine zm (r := cx .f32 r6 r7) ?_
       refine zm (r := cx .f32 e5.1 e5.2) ?_
       refine ROps.d (r := cx .f32 r44 r45) (fs := []) (Γ' := []) rfl rfl rfl (TOp.callB (CallAs.func ent13 rfl rfl) (Bors.cons (Bor.pure rfl) (Bors.cons (Bor.pure rfl) Bors.nil)) rfl rfl (i_QuotientOf_ok r6 r7 e5.1 e5.2 r44 r45 hf47)) rfl ?_
       refine zm (r := cx .f32 e3.1 e3.2) ?_
       refine zl (r := b true) (LOp.eqb (LOp.cne rfl (OpC.tmp rfl) (OpC.tmp rfl)) hc48) ?_
       refine zl (r := b true) (LOp.pick_true rfl rfl rfl) ?_
       refine zm (r := b true) ?_
       iterate 6 (refine ROps.s rfl rfl rfl ?_)
       refine zl (r := b true) (LOp.pick_true rfl rfl rfl) ?_
       refine zN ?_
       exact .inl ⟨(Le.of ⟨aR, aR, aR, trivial⟩ trivial), h⟩
      ·obtain ⟨r46, r47, hf49, h⟩ := obind2_some h
       rcases bsel_some h with ⟨hc50, h⟩ | ⟨hc50, h⟩
       ·refine RunC.regionW ?_
        refine zm (r := cx .f32 e5.1 e5.2) ?_
        refine zl (r := b true) (LOp.eqb (LOp.cne rfl (OpC.tmp rfl) (OpC.const rfl (by kernel_rfl) (by kernel_rfl) (by kernel_rfl) (by kernel_rfl))) hc46) ?_
        refine zm (r := b true) ?_
        refine zm (r := cx .f32 r6 r7) ?_
        refine zm (r := cx .f32 e5.1 e5.2) ?_
        refine ROps.d (r := cx .f32 r44 r45) (fs := []) (Γ' := []) rfl rfl rfl (TOp.callB (CallAs.func ent13 rfl rfl) (Bors.cons (Bor.pure rfl) (Bors.cons (Bor.pure rfl) Bors.nil)) rfl rfl (i_QuotientOf_ok r6 r7 e5.1 e5.2 r44 r45 hf47)) rfl ?_
        refine zm (r := cx .f32 e3.1 e3.2) ?_
        refine zl (r := b false) (LOp.eqb (LOp.cne rfl (OpC.tmp rfl) (OpC.tmp rfl)) hc48) ?_
        refine zl (r := b false) (LOp.pick_true rfl rfl rfl) ?_
        refine zm (r := b false) ?_
        refine zm (r := cx .f32 e3.1 e3.2) ?_
        refine ROps.d (r := cx .f32 r46 r47) (fs := []) (Γ' := []) rfl rfl rfl (TOp.callB (CallAs.func ent14 rfl rfl) (Bors.cons (Bor.pure rfl) (Bors.cons (Bor.le (ALe.fl (by kernel_rfl) (by kernel_rfl)) (Bor.pure rfl)) Bors.nil)) rfl rfl (i_ScaleComplex_ok e3.1 e3.2 (some 1073741824) r46 r47 hf49)) rfl ?_
        iterate 2 (refine zm (r := cx .f32 e3.1 e3.2) ?_)
        refine ROps.d (r := cx .f32 (fop .add .f32 e3.1 e3.1) (fop .add .f32 e3.2 e3.2)) (fs := []) (Γ' := []) rfl rfl rfl (TOp.cadd rfl (OpC.tmp rfl) (OpC.tmp rfl)) rfl ?_
        refine zl (r := b true) (LOp.eqb (LOp.cne rfl (OpC.tmp rfl) (OpC.tmp rfl)) hc50) ?_
        refine zl (r := b true) (LOp.pick_false rfl rfl rfl) ?_
        refine zN ?_
        exact .inl ⟨(Le.of ⟨aR, aR, aR, trivial⟩ trivial), h⟩
       ·refine RunC.regionW ?_
        refine zm (r := cx .f32 e5.1 e5.2) ?_
        refine zl (r := b true) (LOp.eqb (LOp.cne rfl (OpC.tmp rfl) (OpC.const rfl (by kernel_rfl) (by kernel_rfl) (by kernel_rfl) (by kernel_rfl))) hc46) ?_
        refine zm (r := b true) ?_
        refine zm (r := cx .f32 r6 r7) ?_
        refine zm (r := cx .f32 e5.1 e5.2) ?_
        refine ROps.d (r := cx .f32 r44 r45) (fs := []) (Γ' := []) rfl rfl rfl (TOp.callB (CallAs.func ent13 rfl rfl) (Bors.cons (Bor.pure rfl) (Bors.cons (Bor.pure rfl) Bors.nil)) rfl rfl (i_QuotientOf_ok r6 r7 e5.1 e5.2 r44 r45 hf47)) rfl ?_
        refine zm (r := cx .f32 e3.1 e3.2) ?_
        refine zl (r := b false) (LOp.eqb (LOp.cne rfl (OpC.tmp rfl) (OpC.tmp rfl)) hc48) ?_
        refine zl (r := b false) (LOp.pick_true rfl rfl rfl) ?_
        refine zm (r := b false) ?_
        refine zm (r := cx .f32 e3.1 e3.2) ?_
        refine ROps.d (r := cx .f32 r46 r47) (fs := []) (Γ' := []) rfl rfl rfl (TOp.callB (CallAs.func ent14 rfl rfl) (Bors.cons (Bor.pure rfl) (Bors.cons (Bor.le (ALe.fl (by kernel_rfl) (by kernel_rfl)) (Bor.pure rfl)) Bors.nil)) rfl rfl (i_ScaleComplex_ok e3.1 e3.2 (some 1073741824) r46 r47 hf49)) rfl ?_
        iterate 2 (refine zm (r := cx .f32 e3.1 e3.2) ?_)
        refine ROps.d (r := cx .f32 (fop .add .f32 e3.1 e3.1) (fop .add .f32 e3.2 e3.2)) (fs := []) (Γ' := []) rfl rfl rfl (TOp.cadd rfl (OpC.tmp rfl) (OpC.tmp rfl)) rfl ?_
        refine zl (r := b false) (LOp.eqb (LOp.cne rfl (OpC.tmp rfl) (OpC.tmp rfl)) hc50) ?_
        refine zl (r := b false) (LOp.pick_false rfl rfl rfl) ?_
        refine zN ?_
        exact .inr (⟨(Le.of ⟨aR, aR, aR, trivial⟩ trivial), h⟩)
     ·obtain ⟨r48, r49, hf51, h⟩ := obind2_some h
      rcases bsel_some h with ⟨hc52, h⟩ | ⟨hc52, h⟩
      ·refine RunC.regionW ?_
       refine zm (r := cx .f32 e5.1 e5.2) ?_
       refine zl (r := b false) (LOp.eqb (LOp.cne rfl (OpC.tmp rfl) (OpC.const rfl (by kernel_rfl) (by kernel_rfl) (by kernel_rfl) (by kernel_rfl))) hc46) ?_
       refine zm (r := b false) ?_
       iterate 5 (refine ROps.s rfl rfl rfl ?_)
       refine zl (r := b false) (LOp.pick_false rfl rfl rfl) ?_
       refine zm (r := b false) ?_
       refine zm (r := cx .f32 e3.1 e3.2) ?_
       refine ROps.d (r := cx .f32 r48 r49) (fs := []) (Γ' := []) rfl rfl rfl (TOp.callB (CallAs.func ent14 rfl rfl) (Bors.cons (Bor.pure rfl) (Bors.cons (Bor.le (ALe.fl (by kernel_rfl) (by kernel_rfl)) (Bor.pure rfl)) Bors.nil)) rfl rfl (i_ScaleComplex_ok e3.1 e3.2 (some 1073741824) r48 r49 hf51)) rfl ?_
       iterate 2 (refine zm (r := cx .f32 e3.1 e3.2) ?_)
       refine ROps.d (r := cx .f32 (fop .add .f32 e3.1 e3.1) (fop .add .f32 e3.2 e3.2)) (fs := []) (Γ' := []) rfl rfl rfl (TOp.cadd rfl (OpC.tmp rfl) (OpC.tmp rfl)) rfl ?_
       refine zl (r := b true) (LOp.eqb (LOp.cne rfl (OpC.tmp rfl) (OpC.tmp rfl)) hc52) ?_
       refine zl (r := b true) (LOp.pick_false rfl rfl rfl) ?_
       refine zN ?_
       exact .inl ⟨(Le.of ⟨aR, aR, aR, trivial⟩ trivial), h⟩
      ·refine RunC.regionW ?_
       refine zm (r := cx .f32 e5.1 e5.2) ?_
       refine zl (r := b false) (LOp.eqb (LOp.cne rfl (OpC.tmp rfl) (OpC.const rfl (by kernel_rfl) (by kernel_rfl) (by kernel_rfl) (by kernel_rfl))) hc46) ?_
       refine zm (r := b false) ?_
       iterate 5 (refine ROps.s rfl rfl rfl ?_)
       refine zl (r := b false) (LOp.pick_false rfl rfl rfl) ?_
       refine zm (r := b false) ?_
       refine zm (r := cx .f32 e3.1 e3.2) ?_
       refine ROps.d (r := cx .f32 r48 r49) (fs := []) (Γ' := []) rfl rfl rfl (TOp.callB (CallAs.func ent14 rfl rfl) (Bors.cons (Bor.pure rfl) (Bors.cons (Bor.le (ALe.fl (by kernel_rfl) (by kernel_rfl)) (Bor.pure rfl)) Bors.nil)) rfl rfl (i_ScaleComplex_ok e3.1 e3.2 (some 1073741824) r48 r49 hf51)) rfl ?_
       iterate 2 (refine zm (r := cx .f32 e3.1 e3.2) ?_)
       refine ROps.d (r := cx .f32 (fop .add .f32 e3.1 e3.1) (fop .add .f32 e3.2 e3.2)) (fs := []) (Γ' := []) rfl rfl rfl (TOp.cadd rfl (OpC.tmp rfl) (OpC.tmp rfl)) rfl ?_
       refine zl (r := b false) (LOp.eqb (LOp.cne rfl (OpC.tmp rfl) (OpC.tmp rfl)) hc52) ?_
       refine zl (r := b false) (LOp.pick_false rfl rfl rfl) ?_
       refine zN ?_
       exact .inr (⟨(Le.of ⟨aR, aR, aR, trivial⟩ trivial), h⟩)
    ·rintro τ14 Γ14 (⟨hw14, h⟩ | ⟨hw14, h⟩)
     ·refine RunC.le (τ' := [(0, sl a0.length (a0.map (ik .u8))), (1, sl a1.length (a1.map (ik .u8))), (136, b true)]) (Γ' := []) hw14 ?_
      unfold w_FnProducts_k6 at h
      refine RunC.cond_true rfl rfl ?_
      refine zQ ?_
      refine za (r := b false) ?_
      refine zN ?_
      refine RunC.ret ?_
      have hq := Option.some.inj h
      subst q0
      exact bodyQ.pure (.inr rfl) rfl (Res.one rfl (RV.tmp rfl))
     ·refine RunC.le (τ' := [(0, sl a0.length (a0.map (ik .u8))), (1, sl a1.length (a1.map (ik .u8))), (136, b false)]) (Γ' := []) hw14 ?_
      unfold w_FnProducts_k8 at h
      refine RunC.cond_false rfl rfl ?_
      refine RunC.skip ?_
      refine RunC.seq ?_
      obtain ⟨r50, hf53, h⟩ := obind_some h
      obtain ⟨r51, hf54, h⟩ := obind_some h
      refine RunC.regionW ?_
      refine zm (r := sl a1.length (a1.map (ik .u8))) ?_
      refine zm (r := sl a0.length (a0.map (ik .u8))) ?_
      refine ROps.d (r := i64 r50) (fs := []) (Γ' := []) rfl rfl rfl (TOp.callB (CallAs.func ent16 rfl rfl) (Bors.cons (Bor.sl (fun _ => rfl)) (Bors.cons (Bor.pure rfl) (Bors.cons (Bor.pure rfl) Bors.nil))) rfl rfl (w_b10At_ok a0 0 9 r50 hf53)) rfl ?_
      refine ROps.d (r := sl r51.length (r51.map (cp .f32))) (fs := []) (Γ' := []) rfl rfl rfl (TOp.callS (CallAs.func ent15 rfl rfl) (ALes.cons aR (ALes.cons aR ALes.nil)) (lts_cons (lt_sl (fun _ => rfl)) (lts_cons rfl lts_nil)) (lt_sl (fun _ => rfl)) (s_B10Any_ok a1 r50 r51 hf54) (Bor.own (f := (cp .f32)) (fun _ => rfl) rfl rfl)) rfl ?_
      refine za (r := sl r51.length (r51.map (cp .f32))) ?_
      refine zN ?_
      refine RunC.seq ?_
      obtain ⟨r52, r53, hf55, h⟩ := obind2_some h
      refine RunC.regionW ?_
      refine zm (r := sl r51.length (r51.map (cp .f32))) ?_
      refine ROps.d (r := tup [str r52, b r53]) (fs := []) (Γ' := []) rfl rfl rfl (TOp.callB (CallAs.func ent17 rfl rfl) (Bors.cons (Bor.sl (fun _ => rfl)) Bors.nil) rfl rfl (i_ComplexText_ok r51 r52 r53 hf55)) rfl ?_
      refine zm (r := tup [str r52, b r53]) ?_
      refine zl (r := str r52) (LOp.extract rfl rfl rfl) ?_
      refine zl (r := b r53) (LOp.extract rfl rfl rfl) ?_
      refine za (r := str r52) ?_
      refine za (r := b r53) ?_
      refine zN ?_
      refine RunC.seq ?_
      obtain ⟨r54, r55, hf56, h⟩ := obind2_some h
      refine RunC.regionW ?_
      refine zm (r := str r52) ?_
      refine ROps.d (r := tup [sl r55.length (r55.map (cp .f32)), b r54]) (fs := []) (Γ' := []) rfl rfl rfl (TOp.callS (CallAs.func ent18 rfl rfl) (ALes.cons aR ALes.nil) (lts_cons rfl lts_nil) (lt_tup (lts_cons (lt_sl (fun _ => rfl)) (lts_cons rfl lts_nil))) (i_ReadComplex_ok r52 r54 r55 hf56) (Bor.tup (Bors.cons (Bor.own (f := (cp .f32)) (fun _ => rfl) rfl rfl) (Bors.cons (Bor.pure rfl) Bors.nil)))) rfl ?_
      refine zm (r := tup [sl r55.length (r55.map (cp .f32)), b r54]) ?_
      refine zl (r := sl r55.length (r55.map (cp .f32))) (LOp.extract rfl rfl rfl) ?_
      refine zl (r := b r54) (LOp.extract rfl rfl rfl) ?_
      refine za (r := sl r55.length (r55.map (cp .f32))) ?_
      refine za (r := b r54) ?_
      refine zN ?_
      refine RunC.seq ?_
      obtain ⟨r56, hf57, h⟩ := obind_some h
      refine RunC.regionW ?_
      refine zm (r := sl a0.length (a0.map (ik .u8))) ?_
      refine ROps.d (r := f32 r56) (fs := []) (Γ' := []) rfl rfl rfl (TOp.callB (CallAs.func ent19 rfl rfl) (Bors.cons (Bor.sl (fun _ => rfl)) Bors.nil) rfl rfl (s_B10Number_ok a0 r56 hf57)) rfl ?_
      refine za (r := f32 r56) ?_
      refine zN ?_
      refine RunC.seq ?_
      obtain ⟨r57, hf58, h⟩ := obind_some h
      obtain ⟨r58, r59, hf59, h⟩ := obind2_some h
      refine RunC.regionW ?_
      refine zm (r := f32 r56) ?_
      refine ROps.d (r := i64 r57) (fs := []) (Γ' := []) rfl rfl rfl (TOp.callB (CallAs.func ent21 rfl rfl) (Bors.cons (Bor.pure rfl) Bors.nil) rfl rfl (i_BitsOf_ok r56 r57 hf58)) rfl ?_
      refine ROps.d (r := tup [f32 r58, b r59]) (fs := []) (Γ' := []) rfl rfl rfl (TOp.callB (CallAs.func ent20 rfl rfl) (Bors.cons (Bor.pure rfl) Bors.nil) rfl rfl (i_FromBits_ok r57 r58 r59 hf59)) rfl ?_
      refine zm (r := tup [f32 r58, b r59]) ?_
      refine zl (r := f32 r58) (LOp.extract rfl rfl rfl) ?_
      refine zl (r := b r59) (LOp.extract rfl rfl rfl) ?_
      refine za (r := f32 r58) ?_
      refine za (r := b r59) ?_
      refine zN ?_
      refine RunC.seq ?_
      obtain ⟨r60, r61, hf60, h⟩ := obind2_some h
      refine RunC.regionW ?_
      refine zm (r := sl a0.length (a0.map (ik .u8))) ?_
      refine ROps.d (r := cx .f32 r60 r61) (fs := []) (Γ' := []) rfl rfl rfl (TOp.callB (CallAs.func ent22 rfl rfl) (Bors.cons (Bor.sl (fun _ => rfl)) Bors.nil) rfl rfl (s_B10Complex_ok a0 r60 r61 hf60)) rfl ?_
      refine za (r := cx .f32 r60 r61) ?_
      refine zN ?_
      refine RunC.seq ?_
      obtain ⟨x62, hx61, h⟩ := olet_some h
      obtain ⟨x63, hx62, h⟩ := olet_some h
      refine RunC.regionW ?_
      refine zm (r := cx .f32 r60 r61) ?_
      refine zl (r := f32 r60) (LOp.real rfl rfl) ?_
      refine ROps.d (r := f64 x62) (fs := []) (Γ' := []) rfl rfl rfl (TOp.eqr (TOp.widen (src := 28) (dst := 46) ⟨_, pun28⟩ pun46 rfl (OpF.tmp rfl)) (congrArg (f .f64) hx61)) rfl ?_
      refine zm (r := cx .f32 r60 r61) ?_
      refine zl (r := f32 r61) (LOp.imag rfl rfl) ?_
      refine ROps.d (r := f64 x63) (fs := []) (Γ' := []) rfl rfl rfl (TOp.eqr (TOp.widen (src := 28) (dst := 46) ⟨_, pun28⟩ pun46 rfl (OpF.tmp rfl)) (congrArg (f .f64) hx62)) rfl ?_
      refine zl (r := cx .f64 x62 x63) (LOp.complex rfl (OpF.tmp rfl) (OpF.tmp rfl)) ?_
      refine za (r := cx .f64 x62 x63) ?_
      refine zN ?_
      refine RunC.seq ?_
      refine RunC.cutN (fun τ Γ => ( Le 423 τ Γ [(4, b false)] [] ∧ w_FnProducts_k10 = some q0) ∨ (∃ (w77 : Bool), Le 423 τ Γ [(4, b w77)] [] ∧ w_FnProducts_k12 w77 = some q0)) ?_ ?_
      ·rcases bsel_some h with ⟨hc63, h⟩ | ⟨hc63, h⟩
       ·rcases bsel_some h with ⟨hc64, h⟩ | ⟨hc64, h⟩
        ·rcases bsel_some h with ⟨hc65, h⟩ | ⟨hc65, h⟩
         ·obtain ⟨r64, hf66, h⟩ := obind_some h
          rcases bsel_some h with ⟨hc67, h⟩ | ⟨hc67, h⟩
          ·obtain ⟨r65, hf68, h⟩ := obind_some h
           rcases bsel_some h with ⟨hc69, h⟩ | ⟨hc69, h⟩
           ·obtain ⟨r66, r67, hf70, h⟩ := obind2_some h
            obtain ⟨r68, hf71, h⟩ := obind_some h
            rcases bsel_some h with ⟨hc72, h⟩ | ⟨hc72, h⟩
            ·obtain ⟨r69, r70, hf73, h⟩ := obind2_some h
             obtain ⟨r71, r72, hf74, h⟩ := obind2_some h
             obtain ⟨r73, hf75, h⟩ := obind_some h
             rcases bsel_some h with ⟨hc76, h⟩ | ⟨hc76, h⟩
             ·obtain ⟨r74, hf77, h⟩ := obind_some h
              obtain ⟨r75, hf78, h⟩ := obind_some h
              rcases bsel_some h with ⟨hc79, h⟩ | ⟨hc79, h⟩
              ·obtain ⟨r76, hf80, h⟩ := obind_some h
               refine RunC.regionW ?_
               refine zl (r := b true) (LOp.eqb (LOp.move rfl rfl) hc63) ?_
               refine zm (r := b true) ?_
               refine zl (r := b true) (LOp.eqb (LOp.move rfl rfl) hc64) ?_
               refine zl (r := b true) (LOp.pick_true rfl rfl rfl) ?_
               refine zm (r := b true) ?_
               refine zl (r := b true) (LOp.eqb (LOp.move rfl rfl) hc65) ?_
               refine zl (r := b true) (LOp.pick_true rfl rfl rfl) ?_
               refine zm (r := b true) ?_
               refine zm (r := sl r55.length (r55.map (cp .f32))) ?_
               refine zm (r := sl r51.length (r51.map (cp .f32))) ?_
               refine ROps.d (r := b true) (fs := []) (Γ' := []) rfl rfl rfl (TOp.eqb (TOp.callB (CallAs.func ent23 rfl rfl) (Bors.cons (Bor.sl (fun _ => rfl)) (Bors.cons (Bor.sl (fun _ => rfl)) Bors.nil)) rfl rfl (w_b10Same_ok r55 r51 r64 hf66)) hc67) rfl ?_
               refine zl (r := b true) (LOp.pick_true rfl rfl rfl) ?_
               refine zm (r := b true) ?_
               refine zm (r := f32 r58) ?_
               refine zm (r := f32 r56) ?_
               refine ROps.d (r := b true) (fs := []) (Γ' := []) rfl rfl rfl (TOp.eqb (TOp.callB (CallAs.func ent10 rfl rfl) (Bors.cons (Bor.pure rfl) (Bors.cons (Bor.pure rfl) Bors.nil)) rfl rfl (s_SameNumber_ok r58 r56 r65 hf68)) hc69) rfl ?_
               refine zl (r := b true) (LOp.pick_true rfl rfl rfl) ?_
               refine zm (r := b true) ?_
               refine zm (r := cx .f64 x62 x63) ?_
               refine ROps.d (r := cx .f32 r66 r67) (fs := []) (Γ' := []) rfl rfl rfl (TOp.callB (CallAs.func ent25 rfl rfl) (Bors.cons (Bor.pure rfl) Bors.nil) rfl rfl (i_NarrowComplex_ok x62 x63 r66 r67 hf70)) rfl ?_
               refine zm (r := cx .f32 r60 r61) ?_
               refine ROps.d (r := b true) (fs := []) (Γ' := []) rfl rfl rfl (TOp.eqb (TOp.callB (CallAs.func ent24 rfl rfl) (Bors.cons (Bor.pure rfl) (Bors.cons (Bor.pure rfl) Bors.nil)) rfl rfl (i_SameComplex_ok r66 r67 r60 r61 r68 hf71)) hc72) rfl ?_
               refine zl (r := b true) (LOp.pick_true rfl rfl rfl) ?_
               refine zm (r := b true) ?_
               refine zm (r := cx .f32 r60 r61) ?_
               refine ROps.d (r := cx .f32 r69 r70) (fs := []) (Γ' := []) rfl rfl rfl (TOp.callB (CallAs.func ent9 rfl rfl) (Bors.cons (Bor.pure rfl) Bors.nil) rfl rfl (i_ConjugateOf_ok r60 r61 r69 r70 hf73)) rfl ?_
               refine ROps.d (r := cx .f32 r71 r72) (fs := []) (Γ' := []) rfl rfl rfl (TOp.callB (CallAs.func ent9 rfl rfl) (Bors.cons (Bor.pure rfl) Bors.nil) rfl rfl (i_ConjugateOf_ok r69 r70 r71 r72 hf74)) rfl ?_
               refine zm (r := cx .f32 r60 r61) ?_
               refine ROps.d (r := b true) (fs := []) (Γ' := []) rfl rfl rfl (TOp.eqb (TOp.callB (CallAs.func ent24 rfl rfl) (Bors.cons (Bor.pure rfl) (Bors.cons (Bor.pure rfl) Bors.nil)) rfl rfl (i_SameComplex_ok r71 r72 r60 r61 r73 hf75)) hc76) rfl ?_
               refine zl (r := b true) (LOp.pick_true rfl rfl rfl) ?_
               refine zm (r := b true) ?_
               refine zm (r := cx .f32 r60 r61) ?_
               refine ROps.d (r := b r74) (fs := []) (Γ' := []) rfl rfl rfl (TOp.callB (CallAs.func ent26 rfl rfl) (Bors.cons (Bor.pure rfl) Bors.nil) rfl rfl (i_IsFiniteComplex_ok r60 r61 r74 hf77)) rfl ?_
               refine zm (r := cx .f32 r60 r61) ?_
               refine zl (r := f32 r60) (LOp.real rfl rfl) ?_
               refine ROps.d (r := b true) (fs := []) (Γ' := []) rfl rfl rfl (TOp.eqb (TOp.callB (CallAs.func ent27 rfl rfl) (Bors.cons (Bor.pure rfl) Bors.nil) rfl rfl (s_IsFinite_ok r60 r75 hf78)) hc79) rfl ?_
               refine zm (r := b true) ?_
               refine zm (r := cx .f32 r60 r61) ?_
               refine zl (r := f32 r61) (LOp.imag rfl rfl) ?_
               refine ROps.d (r := b r76) (fs := []) (Γ' := []) rfl rfl rfl (TOp.callB (CallAs.func ent27 rfl rfl) (Bors.cons (Bor.pure rfl) Bors.nil) rfl rfl (s_IsFinite_ok r61 r76 hf80)) rfl ?_
               refine zl (r := b r76) (LOp.pick_true rfl rfl rfl) ?_
               refine zl (r := b (r74 == r76)) (LOp.eqlb pun4 rfl rfl rfl) ?_
               refine zl (r := b (r74 == r76)) (LOp.pick_true rfl rfl rfl) ?_
               refine za (r := b (r74 == r76)) ?_
               refine zN ?_
               exact .inr (⟨(r74 == r76), (Le.of ⟨aR, trivial⟩ trivial), h⟩)
              ·refine RunC.regionW ?_
               refine zl (r := b true) (LOp.eqb (LOp.move rfl rfl) hc63) ?_
               refine zm (r := b true) ?_
               refine zl (r := b true) (LOp.eqb (LOp.move rfl rfl) hc64) ?_
               refine zl (r := b true) (LOp.pick_true rfl rfl rfl) ?_
               refine zm (r := b true) ?_
               refine zl (r := b true) (LOp.eqb (LOp.move rfl rfl) hc65) ?_
               refine zl (r := b true) (LOp.pick_true rfl rfl rfl) ?_
               refine zm (r := b true) ?_
               refine zm (r := sl r55.length (r55.map (cp .f32))) ?_
               refine zm (r := sl r51.length (r51.map (cp .f32))) ?_
               refine ROps.d (r := b true) (fs := []) (Γ' := []) rfl rfl rfl (TOp.eqb (TOp.callB (CallAs.func ent23 rfl rfl) (Bors.cons (Bor.sl (fun _ => rfl)) (Bors.cons (Bor.sl (fun _ => rfl)) Bors.nil)) rfl rfl (w_b10Same_ok r55 r51 r64 hf66)) hc67) rfl ?_
               refine zl (r := b true) (LOp.pick_true rfl rfl rfl) ?_
               refine zm (r := b true) ?_
               refine zm (r := f32 r58) ?_
               refine zm (r := f32 r56) ?_
               refine ROps.d (r := b true) (fs := []) (Γ' := []) rfl rfl rfl (TOp.eqb (TOp.callB (CallAs.func ent10 rfl rfl) (Bors.cons (Bor.pure rfl) (Bors.cons (Bor.pure rfl) Bors.nil)) rfl rfl (s_SameNumber_ok r58 r56 r65 hf68)) hc69) rfl ?_
               refine zl (r := b true) (LOp.pick_true rfl rfl rfl) ?_
               refine zm (r := b true) ?_
               refine zm (r := cx .f64 x62 x63) ?_
               refine ROps.d (r := cx .f32 r66 r67) (fs := []) (Γ' := []) rfl rfl rfl (TOp.callB (CallAs.func ent25 rfl rfl) (Bors.cons (Bor.pure rfl) Bors.nil) rfl rfl (i_NarrowComplex_ok x62 x63 r66 r67 hf70)) rfl ?_
               refine zm (r := cx .f32 r60 r61) ?_
               refine ROps.d (r := b true) (fs := []) (Γ' := []) rfl rfl rfl (TOp.eqb (TOp.callB (CallAs.func ent24 rfl rfl) (Bors.cons (Bor.pure rfl) (Bors.cons (Bor.pure rfl) Bors.nil)) rfl rfl (i_SameComplex_ok r66 r67 r60 r61 r68 hf71)) hc72) rfl ?_
               refine zl (r := b true) (LOp.pick_true rfl rfl rfl) ?_
               refine zm (r := b true) ?_
               refine zm (r := cx .f32 r60 r61) ?_
               refine ROps.d (r := cx .f32 r69 r70) (fs := []) (Γ' := []) rfl rfl rfl (TOp.callB (CallAs.func ent9 rfl rfl) (Bors.cons (Bor.pure rfl) Bors.nil) rfl rfl (i_ConjugateOf_ok r60 r61 r69 r70 hf73)) rfl ?_
               refine ROps.d (r := cx .f32 r71 r72) (fs := []) (Γ' := []) rfl rfl rfl (TOp.callB (CallAs.func ent9 rfl rfl) (Bors.cons (Bor.pure rfl) Bors.nil) rfl rfl (i_ConjugateOf_ok r69 r70 r71 r72 hf74)) rfl ?_
               refine zm (r := cx .f32 r60 r61) ?_
               refine ROps.d (r := b true) (fs := []) (Γ' := []) rfl rfl rfl (TOp.eqb (TOp.callB (CallAs.func ent24 rfl rfl) (Bors.cons (Bor.pure rfl) (Bors.cons (Bor.pure rfl) Bors.nil)) rfl rfl (i_SameComplex_ok r71 r72 r60 r61 r73 hf75)) hc76) rfl ?_
               refine zl (r := b true) (LOp.pick_true rfl rfl rfl) ?_
               refine zm (r := b true) ?_
               refine zm (r := cx .f32 r60 r61) ?_
               refine ROps.d (r := b r74) (fs := []) (Γ' := []) rfl rfl rfl (TOp.callB (CallAs.func ent26 rfl rfl) (Bors.cons (Bor.pure rfl) Bors.nil) rfl rfl (i_IsFiniteComplex_ok r60 r61 r74 hf77)) rfl ?_
               refine zm (r := cx .f32 r60 r61) ?_
               refine zl (r := f32 r60) (LOp.real rfl rfl) ?_
               refine ROps.d (r := b false) (fs := []) (Γ' := []) rfl rfl rfl (TOp.eqb (TOp.callB (CallAs.func ent27 rfl rfl) (Bors.cons (Bor.pure rfl) Bors.nil) rfl rfl (s_IsFinite_ok r60 r75 hf78)) hc79) rfl ?_
               refine zm (r := b false) ?_
               iterate 3 (refine ROps.s rfl rfl rfl ?_)
               refine zl (r := b false) (LOp.pick_false rfl rfl rfl) ?_
               refine zl (r := b (r74 == false)) (LOp.eqlb pun4 rfl rfl rfl) ?_
               refine zl (r := b (r74 == false)) (LOp.pick_true rfl rfl rfl) ?_
               refine za (r := b (r74 == false)) ?_
               refine zN ?_
               exact .inr (⟨(r74 == false), (Le.of ⟨aR, trivial⟩ trivial), h⟩)
             ·refine RunC.regionW ?_
              refine zl (r := b true) (LOp.eqb (LOp.move rfl rfl) hc63) ?_
              refine zm (r := b true) ?_
              refine zl (r := b true) (LOp.eqb (LOp.move rfl rfl) hc64) ?_
              refine zl (r := b true) (LOp.pick_true rfl rfl rfl) ?_
              refine zm (r := b true) ?_
              refine zl (r := b true) (LOp.eqb (LOp.move rfl rfl) hc65) ?_
              refine zl (r := b true) (LOp.pick_true rfl rfl rfl) ?_
              refine zm (r := b true) ?_
              refine zm (r := sl r55.length (r55.map (cp .f32))) ?_
              refine zm (r := sl r51.length (r51.map (cp .f32))) ?_
              refine ROps.d (r := b true) (fs := []) (Γ' := []) rfl rfl rfl (TOp.eqb (TOp.callB (CallAs.func ent23 rfl rfl) (Bors.cons (Bor.sl (fun _ => rfl)) (Bors.cons (Bor.sl (fun _ => rfl)) Bors.nil)) rfl rfl (w_b10Same_ok r55 r51 r64 hf66)) hc67) rfl ?_
              refine zl (r := b true) (LOp.pick_true rfl rfl rfl) ?_
              refine zm (r := b true) ?_
              refine zm (r := f32 r58) ?_
              refine zm (r := f32 r56) ?_
              refine ROps.d (r := b true) (fs := []) (Γ' := []) rfl rfl rfl (TOp.eqb (TOp.callB (CallAs.func ent10 rfl rfl) (Bors.cons (Bor.pure rfl) (Bors.cons (Bor.pure rfl) Bors.nil)) rfl rfl (s_SameNumber_ok r58 r56 r65 hf68)) hc69) rfl ?_
              refine zl (r := b true) (LOp.pick_true rfl rfl rfl) ?_
              refine zm (r := b true) ?_
              refine zm (r := cx .f64 x62 x63) ?_
              refine ROps.d (r := cx .f32 r66 r67) (fs := []) (Γ' := []) rfl rfl rfl (TOp.callB (CallAs.func ent25 rfl rfl) (Bors.cons (Bor.pure rfl) Bors.nil) rfl rfl (i_NarrowComplex_ok x62 x63 r66 r67 hf70)) rfl ?_
              refine zm (r := cx .f32 r60 r61) ?_
              refine ROps.d (r := b true) (fs := []) (Γ' := []) rfl rfl rfl (TOp.eqb (TOp.callB (CallAs.func ent24 rfl rfl) (Bors.cons (Bor.pure rfl) (Bors.cons (Bor.pure rfl) Bors.nil)) rfl rfl (i_SameComplex_ok r66 r67 r60 r61 r68 hf71)) hc72) rfl ?_
              refine zl (r := b true) (LOp.pick_true rfl rfl rfl) ?_
              refine zm (r := b true) ?_
              refine zm (r := cx .f32 r60 r61) ?_
              refine ROps.d (r := cx .f32 r69 r70) (fs := []) (Γ' := []) rfl rfl rfl (TOp.callB (CallAs.func ent9 rfl rfl) (Bors.cons (Bor.pure rfl) Bors.nil) rfl rfl (i_ConjugateOf_ok r60 r61 r69 r70 hf73)) rfl ?_
              refine ROps.d (r := cx .f32 r71 r72) (fs := []) (Γ' := []) rfl rfl rfl (TOp.callB (CallAs.func ent9 rfl rfl) (Bors.cons (Bor.pure rfl) Bors.nil) rfl rfl (i_ConjugateOf_ok r69 r70 r71 r72 hf74)) rfl ?_
              refine zm (r := cx .f32 r60 r61) ?_
              refine ROps.d (r := b false) (fs := []) (Γ' := []) rfl rfl rfl (TOp.eqb (TOp.callB (CallAs.func ent24 rfl rfl) (Bors.cons (Bor.pure rfl) (Bors.cons (Bor.pure rfl) Bors.nil)) rfl rfl (i_SameComplex_ok r71 r72 r60 r61 r73 hf75)) hc76) rfl ?_
              refine zl (r := b false) (LOp.pick_true rfl rfl rfl) ?_
              refine zm (r := b false) ?_
              iterate 11 (refine ROps.s rfl rfl rfl ?_)
              refine zl (r := b false) (LOp.pick_false rfl rfl rfl) ?_
              refine za (r := b false) ?_
              refine zN ?_
              exact .inl ⟨(Le.of ⟨aR, trivial⟩ trivial), h⟩
            ·refine RunC.regionW ?_
             refine zl (r := b true) (LOp.eqb (LOp.move rfl rfl) hc63) ?_
             refine zm (r := b true) ?_
             refine zl (r := b true) (LOp.eqb (LOp.move rfl rfl) hc64) ?_
             refine zl (r := b true) (LOp.pick_true rfl rfl rfl) ?_
             refine zm (r := b true) ?_
             refine zl (r := b true) (LOp.eqb (LOp.move rfl rfl) hc65) ?_
             refine zl (r := b true) (LOp.pick_true rfl rfl rfl) ?_
             refine zm (r := b true) ?_
             refine zm (r := sl r55.length (r55.map (cp .f32))) ?_
             refine zm (r := sl r51.length (r51.map (cp .f32))) ?_
             refine ROps.d (r := b true) (fs := []) (Γ' := []) rfl rfl rfl (TOp.eqb (TOp.callB (CallAs.func ent23 rfl rfl) (Bors.cons (Bor.sl (fun _ => rfl)) (Bors.cons (Bor.sl (fun _ => rfl)) Bors.nil)) rfl rfl (w_b10Same_ok r55 r51 r64 hf66)) hc67) rfl ?_
             refine zl (r := b true) (LOp.pick_true rfl rfl rfl) ?_
             refine zm (r := b true) ?_
             refine zm (r := f32 r58) ?_
             refine zm (r := f32 r56) ?_
             refine ROps.d (r := b true) (fs := []) (Γ' := []) rfl rfl rfl (TOp.eqb (TOp.callB (CallAs.func ent10 rfl rfl) (Bors.cons (Bor.pure rfl) (Bors.cons (Bor.pure rfl) Bors.nil)) rfl rfl (s_SameNumber_ok r58 r56 r65 hf68)) hc69) rfl ?_
             refine zl (r := b true) (LOp.pick_true rfl rfl rfl) ?_
             refine zm (r := b true) ?_
             refine zm (r := cx .f64 x62 x63) ?_
             refine ROps.d (r := cx .f32 r66 r67) (fs := []) (Γ' := []) rfl rfl rfl (TOp.callB (CallAs.func ent25 rfl rfl) (Bors.cons (Bor.pure rfl) Bors.nil) rfl rfl (i_NarrowComplex_ok x62 x63 r66 r67 hf70)) rfl ?_
             refine zm (r := cx .f32 r60 r61) ?_
             refine ROps.d (r := b false) (fs := []) (Γ' := []) rfl rfl rfl (TOp.eqb (TOp.callB (CallAs.func ent24 rfl rfl) (Bors.cons (Bor.pure rfl) (Bors.cons (Bor.pure rfl) Bors.nil)) rfl rfl (i_SameComplex_ok r66 r67 r60 r61 r68 hf71)) hc72) rfl ?_
             refine zl (r := b false) (LOp.pick_true rfl rfl rfl) ?_
             refine zm (r := b false) ?_
             iterate 5 (refine ROps.s rfl rfl rfl ?_)
             refine zl (r := b false) (LOp.pick_false rfl rfl rfl) ?_
             refine zm (r := b false) ?_
             iterate 11 (refine ROps.s rfl rfl rfl ?_)
             refine zl (r := b false) (LOp.pick_false rfl rfl rfl) ?_
             refine za (r := b false) ?_
             refine zN ?_
             exact .inl ⟨(Le.of ⟨aR, trivial⟩ trivial), h⟩
           ·refine RunC.regionW ?_
            refine zl (r := b true) (LOp.eqb (LOp.move rfl rfl) hc63) ?_
            refine zm (r := b true) ?_
            refine zl (r := b true) (LOp.eqb (LOp.move rfl rfl) hc64) ?_
            refine zl (r := b true) (LOp.pick_true rfl rfl rfl) ?_
            refine zm (r := b true) ?_
            refine zl (r := b true) (LOp.eqb (LOp.move rfl rfl) hc65) ?_
            refine zl (r := b true) (LOp.pick_true rfl rfl rfl) ?_
            refine zm (r := b true) ?_
            refine zm (r := sl r55.length (r55.map (cp .f32))) ?_
            refine zm (r := sl r51.length (r51.map (cp .f32))) ?_
            refine ROps.d (r := b true) (fs := []) (Γ' := []) rfl rfl rfl (TOp.eqb (TOp.callB (CallAs.func ent23 rfl rfl) (Bors.cons (Bor.sl (fun _ => rfl)) (Bors.cons (Bor.sl (fun _ => rfl)) Bors.nil)) rfl rfl (w_b10Same_ok r55 r51 r64 hf66)) hc67) rfl ?_
            refine zl (r := b true) (LOp.pick_true rfl rfl rfl) ?_
            refine zm (r := b true) ?_
            refine zm (r := f32 r58) ?_
            refine zm (r := f32 r56) ?_
            refine ROps.d (r := b false) (fs := []) (Γ' := []) rfl rfl rfl (TOp.eqb (TOp.callB (CallAs.func ent10 rfl rfl) (Bors.cons (Bor.pure rfl) (Bors.cons (Bor.pure rfl) Bors.nil)) rfl rfl (s_SameNumber_ok r58 r56 r65 hf68)) hc69) rfl ?_
            refine zl (r := b false) (LOp.pick_true rfl rfl rfl) ?_
            refine zm (r := b false) ?_
            iterate 2 (refine ROps.s rfl rfl rfl ?_; refine ROps.s rfl rfl rfl ?_; refine ROps.s rfl rfl rfl ?_; refine ROps.s rfl rfl rfl ?_; refine zl (r := b false) (LOp.pick_false rfl rfl rfl) ?_; refine zm (r := b false) ?_; refine ROps.s rfl rfl rfl ?_)
            iterate 10 (refine ROps.s rfl rfl rfl ?_)
            refine zl (r := b false) (LOp.pick_false rfl rfl rfl) ?_
            refine za (r := b false) ?_
            refine zN ?_
            exact .inl ⟨(Le.of ⟨aR, trivial⟩ trivial), h⟩
          ·refine RunC.regionW ?_
           refine zl (r := b true) (LOp.eqb (LOp.move rfl rfl) hc63) ?_
           refine zm (r := b true) ?_
           refine zl (r := b true) (LOp.eqb (LOp.move rfl rfl) hc64) ?_
           refine zl (r := b true) (LOp.pick_true rfl rfl rfl) ?_
           refine zm (r := b true) ?_
           refine zl (r := b true) (LOp.eqb (LOp.move rfl rfl) hc65) ?_
           refine zl (r := b true) (LOp.pick_true rfl rfl rfl) ?_
           refine zm (r := b true) ?_
           refine zm (r := sl r55.length (r55.map (cp .f32))) ?_
           refine zm (r := sl r51.length (r51.map (cp .f32))) ?_
           refine ROps.d (r := b false) (fs := []) (Γ' := []) rfl rfl rfl (TOp.eqb (TOp.callB (CallAs.func ent23 rfl rfl) (Bors.cons (Bor.sl (fun _ => rfl)) (Bors.cons (Bor.sl (fun _ => rfl)) Bors.nil)) rfl rfl (w_b10Same_ok r55 r51 r64 hf66)) hc67) rfl ?_
           refine zl (r := b false) (LOp.pick_true rfl rfl rfl) ?_
           refine zm (r := b false) ?_
           iterate 2 (refine ROps.s rfl rfl rfl ?_; refine ROps.s rfl rfl rfl ?_; refine ROps.s rfl rfl rfl ?_; refine zl (r := b false) (LOp.pick_false rfl rfl rfl) ?_; refine zm (r := b false) ?_; refine ROps.s rfl rfl rfl ?_)
           iterate 4 (refine ROps.s rfl rfl rfl ?_)
           refine zl (r := b false) (LOp.pick_false rfl rfl rfl) ?_
           refine zm (r := b false) ?_
           iterate 11 (refine ROps.s rfl rfl rfl ?_)
           refine zl (r := b false) (LOp.pick_false rfl rfl rfl) ?_
           refine za (r := b false) ?_
           refine zN ?_
           exact .inl ⟨(Le.of ⟨aR, trivial⟩ trivial), h⟩
         ·refine RunC.regionW ?_
          refine zl (r := b true) (LOp.eqb (LOp.move rfl rfl) hc63) ?_
          refine zm (r := b true) ?_
          refine zl (r := b true) (LOp.eqb (LOp.move rfl rfl) hc64) ?_
          refine zl (r := b true) (LOp.pick_true rfl rfl rfl) ?_
          refine zm (r := b true) ?_
          refine zl (r := b false) (LOp.eqb (LOp.move rfl rfl) hc65) ?_
          refine zl (r := b false) (LOp.pick_true rfl rfl rfl) ?_
          iterate 2 (refine zm (r := b false) ?_; refine ROps.s rfl rfl rfl ?_; refine ROps.s rfl rfl rfl ?_; refine ROps.s rfl rfl rfl ?_; refine zl (r := b false) (LOp.pick_false rfl rfl rfl) ?_)
          refine zm (r := b false) ?_
          iterate 2 (refine ROps.s rfl rfl rfl ?_; refine ROps.s rfl rfl rfl ?_; refine ROps.s rfl rfl rfl ?_; refine ROps.s rfl rfl rfl ?_; refine zl (r := b false) (LOp.pick_false rfl rfl rfl) ?_; refine zm (r := b false) ?_; refine ROps.s rfl rfl rfl ?_)
          iterate 10 (refine ROps.s rfl rfl rfl ?_)
          refine zl (r := b false) (LOp.pick_false rfl rfl rfl) ?_
          refine za (r := b false) ?_
          refine zN ?_
          exact .inl ⟨(Le.of ⟨aR, trivial⟩ trivial), h⟩
        ·refine RunC.regionW ?_
         refine zl (r := b true) (LOp.eqb (LOp.move rfl rfl) hc63) ?_
         refine zm (r := b true) ?_
         refine zl (r := b false) (LOp.eqb (LOp.move rfl rfl) hc64) ?_
         refine zl (r := b false) (LOp.pick_true rfl rfl rfl) ?_
         refine zm (r := b false) ?_
         iterate 3 (refine ROps.s rfl rfl rfl ?_; refine zl (r := b false) (LOp.pick_false rfl rfl rfl) ?_; refine zm (r := b false) ?_; refine ROps.s rfl rfl rfl ?_; refine ROps.s rfl rfl rfl ?_)
         iterate 2 (refine ROps.s rfl rfl rfl ?_; refine ROps.s rfl rfl rfl ?_; refine zl (r := b false) (LOp.pick_false rfl rfl rfl) ?_; refine zm (r := b false) ?_; refine ROps.s rfl rfl rfl ?_; refine ROps.s rfl rfl rfl ?_; refine ROps.s rfl rfl rfl ?_)
         iterate 8 (refine ROps.s rfl rfl rfl ?_)
         refine zl (r := b false) (LOp.pick_false rfl rfl rfl) ?_
         refine za (r := b false) ?_
         refine zN ?_
         exact .inl ⟨(Le.of ⟨aR, trivial⟩ trivial), h⟩
       ·refine RunC.regionW ?_
        refine zl (r := b false) (LOp.eqb (LOp.move rfl rfl) hc63) ?_
        iterate 2 (refine zm (r := b false) ?_; refine ROps.s rfl rfl rfl ?_; refine zl (r := b false) (LOp.pick_false rfl rfl rfl) ?_)
        iterate 2 (refine zm (r := b false) ?_; refine ROps.s rfl rfl rfl ?_; refine ROps.s rfl rfl rfl ?_; refine ROps.s rfl rfl rfl ?_; refine zl (r := b false) (LOp.pick_false rfl rfl rfl) ?_)
        refine zm (r := b false) ?_
        iterate 2 (refine ROps.s rfl rfl rfl ?_; refine ROps.s rfl rfl rfl ?_; refine ROps.s rfl rfl rfl ?_; refine ROps.s rfl rfl rfl ?_; refine zl (r := b false) (LOp.pick_false rfl rfl rfl) ?_; refine zm (r := b false) ?_; refine ROps.s rfl rfl rfl ?_)
        iterate 10 (refine ROps.s rfl rfl rfl ?_)
        refine zl (r := b false) (LOp.pick_false rfl rfl rfl) ?_
        refine za (r := b false) ?_
        refine zN ?_
        exact .inl ⟨(Le.of ⟨aR, trivial⟩ trivial), h⟩
      ·rintro τ15 Γ15 (⟨hw15, h⟩ | ⟨w77, hw15, h⟩)
       ·refine RunC.le (τ' := [(4, b false)]) (Γ' := []) hw15 ?_
        unfold w_FnProducts_k10 at h
        refine RunC.ret ?_
        have hq := Option.some.inj h
        subst q0
        exact bodyQ.pure (.inr rfl) rfl (Res.one rfl (RV.tmp rfl))
       ·refine RunC.le (τ' := [(4, b w77)]) (Γ' := []) hw15 ?_
        unfold w_FnProducts_k12 at h
        refine RunC.ret ?_
        have hq := Option.some.inj h
        subst q0
        exact bodyQ.pure (.inr rfl) rfl (Res.one rfl (RV.tmp rfl))
end Go.Proofs.YtcjbfpoaidjpaaaGreatDoor
