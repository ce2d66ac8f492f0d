/- Step by step: the rules of the logic, one for each kind of operation and code; no conditions. -/
import Derived.Test.YtgekngfnhhdamaaM26
set_option linter.unusedVariables false
set_option linter.unusedSimpArgs false
namespace Go.Proofs.YtgekngfnhhdamaaM
open Go
theorem gd_succ {α : Type} (a : α) (l : List α) (n : Nat) (d : α) : (a :: l).getD (n + 1) d = l.getD n d := rfl
theorem gd_zero {α : Type} (a : α) (l : List α) (d : α) : (a :: l).getD 0 d = a := rfl
section
variable {T : FuncId → Option IFunc} {ops : List IOper} {i : Nat} {rest : Steps'} {tm : List AV} {h : AH} {Q : List AV → AH → Prop} {o : IOper} {r : AV × AH}
theorem w_of_true {K : List AV → AH → Prop} (hg : awanted tm o.guard = some true) (hw : WOp T o.op tm h fun v h' => K (putT tm o.dst v) h') : WStep T o tm h K := by
  unfold WStep
  split
  · exact hw
  · rename_i g hg'
    rw [hg'] at hg
    exact ⟨true, hg, fun _ => hw, fun e => by cases e⟩
theorem w_cons (ho : ops[i]? = some o) (hw : WStep T o tm h fun tm' h' => WPl T ops rest tm' h' Q) : WPl T ops ((i, false) :: rest) tm h Q := by
  unfold WPl; rw [ho]; simpa using hw
theorem wPure (ho : ops[i]? = some o) (hg : awanted tm o.guard = some true) (hc : (mkid o.op || calls o.op) = false) (e : aop N0 [] o.op tm h = some r) (k : WPl T ops rest (putT tm o.dst r.1) r.2 Q) : WPl T ops ((i, false) :: rest) tm h Q := by
  refine w_cons ho (w_of_true hg ?_)
  simp only [Bool.or_eq_false_iff] at hc
  obtain ⟨h1, h2⟩ := hc
  generalize o.op = op at *
  cases op <;> first | (exfalso; revert h1; simp [mkid]; done) | (exfalso; revert h2; simp [calls]; done) | exact ⟨r, e, k⟩
theorem wMk (ho : ops[i]? = some o) (hg : awanted tm o.guard = some true) (hm : mkid o.op = true) (k : ∀ id, h id = none → ∃ r, aop N0 id o.op tm h = some r ∧ WPl T ops rest (putT tm o.dst r.1) r.2 Q) : WPl T ops ((i, false) :: rest) tm h Q := by
  refine w_cons ho (w_of_true hg ?_)
  generalize o.op = op at *
  cases op <;> first | (exfalso; revert hm; simp [mkid]; done) | exact k
theorem wSkip (ho : ops[i]? = some o) (hg : awanted tm o.guard = some false) (k : WPl T ops rest (putT tm o.dst (.tup [])) h Q) : WPl T ops ((i, false) :: rest) tm h Q := by
  refine w_cons ho ?_
  unfold WStep
  split
  · rename_i hn; rw [hn] at hg; cases hg
  · rename_i g hg'
    rw [hg'] at hg
    exact ⟨false, hg, (fun e => by cases e), fun _ => k⟩
theorem wCall {f : FuncId} {as : List Opd} (ho : ops[i]? = some o) (hg : awanted tm o.guard = some true) (hop : o.op = .callF f as) (k : Sp T f (as.map (ev tm)) h fun v h' => WPl T ops rest (putT tm o.dst v) h' Q) : WPl T ops ((i, false) :: rest) tm h Q := by
  refine w_cons ho (w_of_true hg ?_)
  rw [hop]; exact k
theorem wCallV {f : Opd} {as : List Opd} {g : FuncId} {a b : List AV} (ho : ops[i]? = some o) (hg : awanted tm o.guard = some true) (hop : o.op = .callV f as) (hf : ev tm f = .func g a b) (k : Sp T g (a ++ as.map (ev tm) ++ b) h fun v h' => WPl T ops rest (putT tm o.dst v) h' Q) : WPl T ops ((i, false) :: rest) tm h Q := by
  refine w_cons ho (w_of_true hg ?_)
  rw [hop]; exact ⟨g, a, b, hf, k⟩
/-- A guard that is not known: both ways. -/
theorem wSplit (b : Bool) (ho : ops[i]? = some o) (hg : awanted tm o.guard = some b) (h1 : b = true → WPl T ops ((i, false) :: rest) tm h Q) (h2 : b = false → WPl T ops ((i, false) :: rest) tm h Q) : WPl T ops ((i, false) :: rest) tm h Q := by
  cases b
  · exact h2 rfl
  · exact h1 rfl
theorem wChk (ho : ops[i]? = some o) (hg : awanted tm o.guard = some true) (hc : (mkid o.op || calls o.op) = false) (e : aop N0 [] o.op tm h = some r) (he : putT tm o.dst r.1 = tm) (k : WPl T ops rest tm h Q) : WPl T ops ((i, true) :: rest) tm h Q := by
  unfold WPl; rw [ho]
  refine ⟨?_, k⟩
  unfold WChk
  split
  · exact ⟨hc, r, e, he⟩
  · rename_i g hg'
    rw [hg'] at hg
    exact ⟨true, hg, fun _ => ⟨hc, r, e, he⟩, fun e => by cases e⟩
theorem wChkF (ho : ops[i]? = some o) (hg : awanted tm o.guard = some false) (he : putT tm o.dst (.tup []) = tm) (k : WPl T ops rest tm h Q) : WPl T ops ((i, true) :: rest) tm h Q := by
  unfold WPl; rw [ho]
  refine ⟨?_, k⟩
  unfold WChk
  split
  · rename_i hn; rw [hn] at hg; cases hg
  · rename_i g hg'
    rw [hg'] at hg
    exact ⟨false, hg, (fun e => by cases e), fun _ => he⟩
theorem wNil (k : Q tm h) : WPl T ops [] tm h Q := k
end
section
variable {T : FuncId → Option IFunc} {a b : ICode} {tm : List AV} {h : AH} {Q : Ex → List AV → AH → Prop}
theorem cSeq (k : W T a tm h (Then (fun tm' h' => W T b tm' h' Q) Q)) : W T (.seq a b) tm h Q := W_seq k
theorem cNorm {K : List AV → AH → Prop} (k : K tm h) : Then K Q .norm tm h := k
theorem cExit {K : List AV → AH → Prop} {i : Nat} (k : Q (.exit i) tm h) : Then K Q (.exit i) tm h := k
theorem cRet {K : List AV → AH → Prop} (k : Q .ret tm h) : Then K Q .ret tm h := k
theorem cT {x : Opd} (hx : ev tm x = .bool true) (k : W T a tm h Q) : W T (.cond x a b) tm h Q := W_cond true hx (fun _ => k) (fun e => by cases e)
theorem cF {x : Opd} (hx : ev tm x = .bool false) (k : W T b tm h Q) : W T (.cond x a b) tm h Q := W_cond false hx (fun e => by cases e) (fun _ => k)
theorem bNorm {i : Nat} (k : Q .norm tm h) : InBlock i Q .norm tm h := k
theorem bRet {i : Nat} (k : Q .ret tm h) : InBlock i Q .ret tm h := k
theorem bExit {i : Nat} (k : Q .norm tm h) : InBlock i Q (.exit i) tm h := by simpa [InBlock] using k
theorem bExitN {i j : Nat} (hj : (j == i) = false) (k : Q (.exit j) tm h) : InBlock i Q (.exit j) tm h := by
  have : j ≠ i := by simpa using hj
  simpa [InBlock, this] using k
theorem rRet {fn : IFunc} {K : AV → AH → Prop} {l : List AV} (e : ares tm h fn.res = some l) (k : K (atup l) h) : Rets fn K .ret tm h := ⟨l, e, k⟩
theorem rNorm {fn : IFunc} {K : AV → AH → Prop} {l : List AV} (e : ares tm h fn.res = some l) (k : K (atup l) h) : Rets fn K .norm tm h := ⟨l, e, k⟩
theorem cMask' {l : List Nat} {tm' : List AV} (e : keep l 0 tm = tm') (k : Q .norm tm' h) : W T (.mask l) tm h Q := by subst e; exact W_mask k
theorem cMask {l : List Nat} (k : Q .norm (keep l 0 tm) h) : W T (.mask l) tm h Q := W_mask k
end
end Go.Proofs.YtgekngfnhhdamaaM
