/- The rules of the logic with their side conditions as automatic arguments (so that texts of walks are short); no conditions. -/
import Derived.Test.YtgekngfnhhdamaaM27
set_option linter.unusedVariables false
set_option linter.unusedSimpArgs false
namespace Go.Proofs.YtgekngfnhhdamaaM
open Go
section
variable {T : FuncId → Option IFunc} {ops : List IOper} {i : Nat} {rest : Steps'} {tm tm' : List AV} {h h' h'' : AH} {Q : List AV → AH → Prop} {o : IOper} {v : AV}
theorem xPure (k : WPl T ops rest tm' h'' Q) (ho : ops[i]? = some o := by rfl) (hg : awanted tm o.guard = some true := by (first | (simp only [go_sem, *]; (first | done | exact rfl)) | rfl)) (hc : (mkid o.op || calls o.op) = false := by rfl)
    (e : aop N0 [] o.op tm h = some (v, h') := by (first | (simp only [go_sem, *]; (first | done | exact rfl)) | rfl))
    (ht : putT tm o.dst v = tm' := by (first | (dsimp only [putT, ev, Int.toNat_zero, Nat.sub_zero, Int.toNat_natCast, gd_zero, gd_succ, Nat.zero_add, Nat.add_zero, Nat.reduceAdd, Nat.reduceMul, List.set_cons_zero, List.set_cons_succ, keep, List.contains_cons, List.contains_nil]; (first | done | exact rfl)) | exact rfl))
    (hh : h' = h'' := by (first | (dsimp only [putT, ev, Int.toNat_zero, Nat.sub_zero, Int.toNat_natCast, gd_zero, gd_succ, Nat.zero_add, Nat.add_zero, Nat.reduceAdd, Nat.reduceMul, List.set_cons_zero, List.set_cons_succ]; (first | done | exact rfl)) | exact rfl)) : WPl T ops ((i, false) :: rest) tm h Q := by
  subst ht; subst hh
  exact wPure (r := (v, h')) ho hg hc e k
theorem mkDo {id : Id} {op : IOp} {d : Option Nat} (k : WPl T ops rest tm' h'' Q) (e : aop N0 id op tm h = some (v, h') := by (first | (simp only [go_sem, *]; (first | done | exact rfl)) | rfl))
    (ht : putT tm d v = tm' := by (first | (dsimp only [putT, ev, Int.toNat_zero, Nat.sub_zero, Int.toNat_natCast, gd_zero, gd_succ, Nat.zero_add, Nat.add_zero, Nat.reduceAdd, Nat.reduceMul, List.set_cons_zero, List.set_cons_succ, keep, List.contains_cons, List.contains_nil]; (first | done | exact rfl)) | exact rfl))
    (hh : h' = h'' := by (first | (dsimp only [putT, ev, Int.toNat_zero, Nat.sub_zero, Int.toNat_natCast, gd_zero, gd_succ, Nat.zero_add, Nat.add_zero, Nat.reduceAdd, Nat.reduceMul, List.set_cons_zero, List.set_cons_succ]; (first | done | exact rfl)) | exact rfl)) : ∃ r, aop N0 id op tm h = some r ∧ WPl T ops rest (putT tm d r.1) r.2 Q := by
  subst ht; subst hh
  exact ⟨(v, h'), e, k⟩
theorem xMk (k : ∀ id, h id = none → ∃ r, aop N0 id o.op tm h = some r ∧ WPl T ops rest (putT tm o.dst r.1) r.2 Q) (ho : ops[i]? = some o := by rfl) (hg : awanted tm o.guard = some true := by (first | (simp only [go_sem, *]; (first | done | exact rfl)) | rfl)) (hm : mkid o.op = true := by rfl) : WPl T ops ((i, false) :: rest) tm h Q := wMk ho hg hm k
theorem xSkip (k : WPl T ops rest tm' h Q) (ho : ops[i]? = some o := by rfl) (hg : awanted tm o.guard = some false := by (first | (simp only [go_sem, *]; (first | done | exact rfl)) | rfl))
    (ht : putT tm o.dst (.tup []) = tm' := by (first | (dsimp only [putT, ev, Int.toNat_zero, Nat.sub_zero, Int.toNat_natCast, gd_zero, gd_succ, Nat.zero_add, Nat.add_zero, Nat.reduceAdd, Nat.reduceMul, List.set_cons_zero, List.set_cons_succ, keep, List.contains_cons, List.contains_nil]; (first | done | exact rfl)) | exact rfl)) : WPl T ops ((i, false) :: rest) tm h Q := by
  subst ht
  exact wSkip ho hg k
theorem xCall {f : FuncId} {as : List Opd} {P : AV → AH → Prop} (ho : ops[i]? = some o) (hop : o.op = .callF f as) (s : Sp T f (as.map (ev tm)) h P) (k : ∀ v h', P v h' → WPl T ops rest (putT tm o.dst v) h' Q) (hg : awanted tm o.guard = some true := by (first | (simp only [awanted, gd_zero, gd_succ, beq_self_eq_true, beq_true, beq_false, Bool.not_true, Bool.not_false, *]; done) | rfl)) : WPl T ops ((i, false) :: rest) tm h Q := wCall ho hg hop (Sp.mono s k)
theorem xCallV {f : Opd} {as : List Opd} {g : FuncId} {a b : List AV} {P : AV → AH → Prop} (ho : ops[i]? = some o) (hop : o.op = .callV f as) (hf : ev tm f = .func g a b) (s : Sp T g (a ++ as.map (ev tm) ++ b) h P) (k : ∀ v h', P v h' → WPl T ops rest (putT tm o.dst v) h' Q) (hg : awanted tm o.guard = some true := by (first | (simp only [awanted, gd_zero, gd_succ, beq_self_eq_true, beq_true, beq_false, Bool.not_true, Bool.not_false, *]; done) | rfl)) : WPl T ops ((i, false) :: rest) tm h Q := wCallV ho hg hop hf (Sp.mono s k)
theorem xChk {r : AV × AH} (k : WPl T ops rest tm h Q) (ho : ops[i]? = some o := by rfl) (hg : awanted tm o.guard = some true := by (first | (simp only [go_sem, *]; (first | done | exact rfl)) | rfl)) (hc : (mkid o.op || calls o.op) = false := by rfl) (e : aop N0 [] o.op tm h = some r := by (first | (simp only [go_sem, *]; (first | done | exact rfl)) | rfl)) (he : putT tm o.dst r.1 = tm := by rfl) : WPl T ops ((i, true) :: rest) tm h Q := wChk ho hg hc e he k
theorem xChkF (k : WPl T ops rest tm h Q) (ho : ops[i]? = some o := by rfl) (hg : awanted tm o.guard = some false := by (first | (simp only [go_sem, *]; (first | done | exact rfl)) | rfl)) (he : putT tm o.dst (.tup []) = tm := by rfl) : WPl T ops ((i, true) :: rest) tm h Q := wChkF ho hg he k
/-- The state, put in order. -/
theorem nTm {d : Option Nat} (k : WPl T ops rest tm' h'' Q)
    (ht : putT tm d v = tm' := by (first | (dsimp only [putT, ev, Int.toNat_zero, Nat.sub_zero, Int.toNat_natCast, gd_zero, gd_succ, Nat.zero_add, Nat.add_zero, Nat.reduceAdd, Nat.reduceMul, List.set_cons_zero, List.set_cons_succ, keep, List.contains_cons, List.contains_nil]; (first | done | exact rfl)) | exact rfl))
    (hh : h = h'' := by (first | (dsimp only [putT, ev, Int.toNat_zero, Nat.sub_zero, Int.toNat_natCast, gd_zero, gd_succ, Nat.zero_add, Nat.add_zero, Nat.reduceAdd, Nat.reduceMul, List.set_cons_zero, List.set_cons_succ]; (first | done | exact rfl)) | exact rfl)) : WPl T ops rest (putT tm d v) h Q := by
  subst ht; subst hh; exact k
end
section
variable {T : FuncId → Option IFunc} {a b : ICode} {tm tm' : List AV} {h : AH} {Q : Ex → List AV → AH → Prop}
theorem xT {x : Opd} (k : W T a tm h Q) (hx : ev tm x = .bool true := by (first | (simp only [go_sem, *]; (first | done | exact rfl)) | rfl)) : W T (.cond x a b) tm h Q := cT hx k
theorem xF {x : Opd} (k : W T b tm h Q) (hx : ev tm x = .bool false := by (first | (simp only [go_sem, *]; (first | done | exact rfl)) | rfl)) : W T (.cond x a b) tm h Q := cF hx k
theorem xRet {fn : IFunc} {K : AV → AH → Prop} {l : List AV} (k : K (atup l) h) (e : ares tm h fn.res = some l := by (first | (simp only [go_sem, *]; (first | done | exact rfl)) | rfl)) : Rets fn K .ret tm h := rRet e k
theorem xNorm {fn : IFunc} {K : AV → AH → Prop} {l : List AV} (k : K (atup l) h) (e : ares tm h fn.res = some l := by (first | (simp only [go_sem, *]; (first | done | exact rfl)) | rfl)) : Rets fn K .norm tm h := rNorm e k
theorem xMask {l : List Nat} (k : Q .norm tm' h) (e : keep l 0 tm = tm' := by (simp only [keep, List.contains_cons, List.contains_nil, Nat.reduceBEq, Bool.or_true, Bool.true_or, Bool.or_false, Bool.false_or, if_true, if_false, Bool.false_eq_true, beq_self_eq_true, Nat.zero_add, Nat.reduceAdd, eq_self]; exact rfl)) : W T (.mask l) tm h Q := cMask' e k
end
end Go.Proofs.YtgekngfnhhdamaaM
