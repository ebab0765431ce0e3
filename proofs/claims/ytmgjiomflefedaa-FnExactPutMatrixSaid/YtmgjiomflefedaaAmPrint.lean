/- The abstract layer, last part: the forms in which printed texts apply it. -/
import Derived.Test.YtmgjiomflefedaaAmFloat2
namespace Go.AM
section
variable {P : Program} {N : Nat} {all : Array Oper} {o : Oper} {rest : List Oper} {τ τ' : List (Nat × AV)} {Γ Γ' : List Ob} {Q : PQ} {r : AV} {fs : List (Nat × List AV)} {fss : List (List (Nat × List AV))} {bs : List Bool}
theorem ROps.l {d : Nat} (hw : wantT all τ o = some true) (hd : o.dst = some d) (hN : Nat.blt d N = true) (hl : LOp P o τ r) (h : ROps P N all rest ((d, r) :: τ) Γ Q) : ROps P N all (o :: rest) τ Γ Q :=
  ROps.op hw (hl.top.rop (by simp only [dstLt, hd]; simpa using hN) (by rw [hd]; exact h))
theorem ROps.d {d : Nat} (hw : wantT all τ o = some true) (hd : o.dst = some d) (hN : Nat.blt d N = true) (ht : TOp P o τ Γ r fs) (hΓ : fillOb Γ fs = Γ') (h : ROps P N all rest ((d, r) :: τ) Γ' Q) : ROps P N all (o :: rest) τ Γ Q :=
  ROps.op hw (ht.rop (by simp only [dstLt, hd]; simpa using hN) (by rw [hd, hΓ]; exact h))
theorem ROps.s {d : Nat} (hw : wantT all τ o = some false) (hd : o.dst = some d) (hN : Nat.blt d N = true) (h : ROps P N all rest ((d, .x undef) :: τ) Γ Q) : ROps P N all (o :: rest) τ Γ Q :=
  ROps.skip hw (by simp only [dstLt, hd]; simpa using hN) (by rw [hd]; exact h)
theorem TRun.l {d : Nat} (hw : wantT all τ o = some true) (hd : o.dst = some d) (hl : LOp P o τ r) (h : TRun P all Γ rest ((d, r) :: τ) τ' fss bs) : TRun P all Γ (o :: rest) τ τ' ([] :: fss) (false :: bs) :=
  TRun.op hw hl.top (by rw [hd]; exact h)
theorem TRun.d {d : Nat} (hw : wantT all τ o = some true) (hd : o.dst = some d) (ht : TOp P o τ Γ r fs) (h : TRun P all Γ rest ((d, r) :: τ) τ' fss bs) : TRun P all Γ (o :: rest) τ τ' (fs :: fss) (false :: bs) :=
  TRun.op hw ht (by rw [hd]; exact h)
theorem TRun.loose' {d : Nat} (hw : wantT all τ o = some true) (hd : o.dst = some d) (hl : LOp P o τ r) (h : TRun P all Γ rest ((d, r) :: τ) τ' fss bs) : TRun P all Γ (o :: rest) τ τ' ([] :: fss) (true :: bs) :=
  TRun.loose hw hl (by rw [hd]; exact h)
theorem TRun.s {d : Nat} (hw : wantT all τ o = some false) (hd : o.dst = some d) (h : TRun P all Γ rest ((d, .x undef) :: τ) τ' fss bs) : TRun P all Γ (o :: rest) τ τ' ([] :: fss) (false :: bs) :=
  TRun.skip hw (by rw [hd]; exact h)
theorem RunC.region_draw {id : Nat} {l : List Oper} (n : Nat) (hm : P.follows .mixedOrders = true) (ht : TRun P l.toArray Γ (l.take n) τ τ' fss bs) (hn : bs.length = n) (hok : drawOk l.toArray bs = true) (hdst : (l.take n).all (dstLt N) = true) (hfl : fillsOk Γ fss.flatten) (hΓ : fillOb Γ fss.flatten = Γ')
    (h : ROps P N l.toArray (l.drop n) τ' Γ' (np Q)) : RunC P N (.region id l.toArray true) τ Γ Q := RunC.draw n hm ht hn hok hdst hfl (by rw [hΓ]; exact h)
theorem RunC.regionW {id : Nat} {l : List Oper} (h : ROps P N l.toArray l τ Γ Q) : RunC P N (.region id l.toArray false) τ Γ Q := RunC.region h
theorem fills_nil : fillsOk Γ [] := ⟨by simp, by simp⟩
theorem Ev.start {f : FuncId} {fn : Func} {c : Code} {args : List AV} {r : AV} {τ : List (Nat × AV)} (hf : P.funcs[f]? = some fn) (hb : fn.body = some c) (hN : Nat.ble args.length fn.ntmps = true) (k : Nat) (hτ : argClaims 0 args = τ) (hΓ : Γ ++ List.replicate k ⟨0, none⟩ = Γ')
    {Γo : List Ob} {n : Nat} (hn : fn.ntmps = n) {g : Nat} (hg : Γ.length = g) (h : RunC P n c τ Γ' (bodyQ P fn g r Γo)) : Ev P f args Γ r Γo := by
  subst hn; subst hg; subst hτ; subst hΓ
  exact Ev.of_run hf hb (Nat.le_of_ble_eq_true hN) (RunC.room k h)
end
end Go.AM
