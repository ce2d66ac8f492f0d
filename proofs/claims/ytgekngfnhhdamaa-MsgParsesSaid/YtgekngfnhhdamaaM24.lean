/- The machine's calls do what the model's do; conditions: the functions are told right (TOk). -/
import Derived.Test.YtgekngfnhhdamaaM23
set_option linter.unusedVariables false
set_option linter.unusedSimpArgs false
namespace Go.Proofs.YtgekngfnhhdamaaM
open Go

def rres (P : Program) : List ResultVar → Option (List (Opd × Option Sh))
  | [] => some []
  | .tmp t :: l => (rres P l).map ((.t t, none) :: ·)
  | .cell a t :: l =>
    match rsh P t, rres P l with
    | some sh, some r => some ((.t a, some sh) :: r)
    | _, _ => none
/-- A function, told: its code, with the plans and masks. -/
def rfunc (P : Program) (fn : Func) (ps : List Phases) (ms : List (Option (List Nat))) : Option IFunc :=
  match fn.body with
  | none => none
  | some c =>
    if fn.name == "runtime.NumGoroutine" then none else
    match rsv P c ps ms, rres P fn.results.toList with
    | some (ic, [], []), some res => some { nt := fn.ntmps, res, body := ic }
    | _, _ => none
/-- What the model's call of a function must do, that isn't told by its code. -/
def PrimOk (P : Program) (f : FuncId) (p : Prim) : Prop :=
  ∀ (w0 : World) id args h r, p.run id args h = some r → ∀ μ w (args' : Array Value), VRs μ args args'.toList → Rel w0 μ h w → MFree id μ →
    fnOk P f = true ∧ Calls P f args' w fun e w' => ∃ μ' v', e = .returned v' ∧ Ext μ μ' ∧ MDom id μ μ' ∧ VR μ' r.1 v' ∧ Rel w0 μ' r.2 w'
def TOk (P : Program) (T : FuncId → Option IFunc) : Prop := ∀ f i, T f = some i → (∃ fn ps ms, P.funcs[f]? = some fn ∧ rfunc P fn ps ms = some i) ∨ ∃ p, i.prim = some p ∧ PrimOk P f p
theorem rfunc_prim {P : Program} {fn : Func} {ps : List Phases} {ms : List (Option (List Nat))} {i : IFunc} (h : rfunc P fn ps ms = some i) : i.prim = none := by
  unfold rfunc at h
  split at h
  · cases h
  split at h
  · cases h
  split at h
  · cases h; rfl
  · cases h
/-- A result's value. -/
def resV (ts : Array Value) : ResultVar → Sem Value
  | .tmp t => pure (ts.getD t undef)
  | .cell b t => do loadVar t (← asAddr (ts.getD b undef))
theorem results_eq (fn : Func) (ts : Array Value) : results fn ts = (do let vs ← fn.results.mapM (resV ts); pure (if h : vs.size = 1 then vs[0] else .tuple vs)) := by
  unfold results
  have : (fun x => match x with | ResultVar.tmp t => pure (ts.getD t undef) | .cell a t => do loadVar t (← asAddr (ts.getD a undef)) : ResultVar → Sem Value) = resV ts := by
    funext rv; cases rv <;> rfl
  rw [← this]
  rfl
section
variable {P : Program} {w0 : World} {T : FuncId → Option IFunc}
theorem VRs.getD {μ : Mp} {as : List AV} {vs : List Value} (h : VRs μ as vs) (i : Nat) {x : Value} : VR μ (as.getD i .und) (vs.getD i x) := by
  by_cases hi : i < as.length
  · have h1 : as[i]? = some as[i] := List.getElem?_eq_getElem hi
    obtain ⟨v, v1, v2⟩ := h.get h1
    rw [List.getD_eq_getElem?_getD, List.getD_eq_getElem?_getD, h1, v1]
    exact v2
  · rw [List.getD_eq_getElem?_getD, List.getElem?_eq_none (by omega)]
    exact VR.und _
theorem TR.enter {μ : Mp} {args : List AV} {args' : Array Value} (h : VRs μ args args'.toList) (n : Nat) : TR μ (args ++ List.replicate (n - args.length) (.tup [])) (args' ++ Array.replicate (n - args'.size) undef) := by
  have hl : args.length = args'.size := by rw [h.length]; simp
  have := h.append (VRs.replicate (μ := μ) VR.undef (n - args.length))
  refine ⟨by simp [hl], fun i => ?_⟩
  have := this.getD i (x := undef)
  rw [hl] at this ⊢
  have e : (args' ++ Array.replicate (n - args'.size) undef).getD i undef = (args'.toList ++ List.replicate (n - args'.size) undef).getD i undef := by
    rw [Array.getD_eq_getD_getElem?, List.getD_eq_getElem?_getD, ← Array.getElem?_toList]; simp
  rw [e]; exact this
theorem ares1_sim {μ : Mp} {h : AH} {w : World} {a : Act} {tm : List AV} (R : Rel w0 μ h w) (ht : TR μ tm a.tmps) {rv : ResultVar} {l : List ResultVar} {x : Opd × Option Sh} {r : List (Opd × Option Sh)} (hr : rres P (rv :: l) = some (x :: r)) {v : AV} (e : ares1 tm h x = some v) :
    rres P l = some r ∧ ∃ u, (resV a.tmps rv).run P w = .ok u w ∧ VR μ v u := by
  cases rv with
  | tmp t =>
    simp only [rres] at hr
    obtain ⟨r', h1, h2⟩ := Option.map_eq_some_iff.1 hr
    cases h2
    simp only [ares1] at e
    cases e
    exact ⟨h1, _, rfl, ht.get t⟩
  | cell b t =>
    simp only [rres] at hr
    split at hr
    case h_2 => cases hr
    rename_i sh r' hsh h1
    cases hr
    refine ⟨h1, ?_⟩
    simp only [ares1] at e
    split at e
    case h_2 => cases e
    rename_i i f hev
    have hv := ht.get b
    simp only [ev] at hev
    rw [hev] at hv
    simp only [VR] at hv
    obtain ⟨p, hp, hv⟩ := hv
    split at e
    · obtain ⟨u, k1, k2⟩ := cell_sim R hp e
      obtain ⟨d, d1, d2⟩ := rsh_none hsh
      refine ⟨u, ?_, k1⟩
      simp [resV, hv, asAddr, loadVar, isAgg_run d1, d2, run_load, at_, k2]
    · obtain ⟨us, h1, rfl⟩ := Option.map_eq_some_iff.1 e
      obtain ⟨us', k1, k2, k3⟩ := cellsAt_sim R hp h1
      obtain ⟨d, d1, d2, d3⟩ := rsh_some hsh
      refine ⟨.agg us'.toArray, ?_, by simp only [VR]; exact ⟨_, rfl, by simpa using k1⟩⟩
      have := run_loadVar_mid (P := P) w p.blk (p.off + f) t us' d k3 d1 d2 (by rw [k2]; exact d3)
      simp [resV, hv, asAddr, at_, this]
theorem ares_sim {μ : Mp} {h : AH} {w : World} {a : Act} {tm : List AV} (R : Rel w0 μ h w) (ht : TR μ tm a.tmps) : ∀ {rvs : List ResultVar} {rs : List (Opd × Option Sh)} {l : List AV}, rres P rvs = some rs → ares tm h rs = some l →
    ∃ us, (rvs.mapM (resV a.tmps) : Sem (List Value)).run P w = .ok us w ∧ VRs μ l us
  | [], rs, l, hr, e => by
    cases hr
    cases e
    exact ⟨[], by simp, .nil⟩
  | rv :: rvs, rs, l, hr, e => by
    have hne : ∃ x r, rs = x :: r := by
      cases rv with
      | tmp t => simp only [rres] at hr; obtain ⟨r', _, rfl⟩ := Option.map_eq_some_iff.1 hr; exact ⟨_, _, rfl⟩
      | cell b t =>
        simp only [rres] at hr
        split at hr
        · cases hr; exact ⟨_, _, rfl⟩
        · cases hr
    obtain ⟨x, r, rfl⟩ := hne
    unfold ares at e
    cases h1 : ares1 tm h x with
    | none => simp [h1] at e
    | some v =>
    cases h2 : ares tm h r with
    | none => simp [h1, h2] at e
    | some vs =>
    simp only [h1, h2] at e
    cases e
    obtain ⟨g1, u, g2, g3⟩ := ares1_sim R ht hr h1
    obtain ⟨us, u1, u2⟩ := ares_sim R ht g1 h2
    refine ⟨u :: us, ?_, .cons g3 u2⟩
    rw [List.mapM_cons, Sem.run_bind]
    rw [g2]
    simp only [Result.andThen_ok, Sem.run_bind]
    rw [u1]
    rfl
theorem results_sim {μ : Mp} {h : AH} {w : World} {a : Act} {tm : List AV} (R : Rel w0 μ h w) (ht : TR μ tm a.tmps) {fn : Func} {rs : List (Opd × Option Sh)} {l : List AV} (hr : rres P fn.results.toList = some rs) (e : ares tm h rs = some l) :
    ∃ u, (results fn a.tmps).run P w = .ok u w ∧ VR μ (atup l) u := by
  obtain ⟨us, u1, u2⟩ := ares_sim R ht hr e
  have hmap : (fn.results.mapM (resV a.tmps) : Sem (Array Value)).run P w = .ok us.toArray w := by
    rw [Array.mapM_eq_mapM_toList]
    change ((fn.results.toList.mapM (resV a.tmps) : Sem (List Value)) >>= fun l => pure l.toArray : Sem (Array Value)).run P w = _
    rw [Sem.run_bind, u1]
    rfl
  rw [results_eq, Sem.run_bind, hmap]
  have hlen := u2.length
  match l, us, hlen, u2 with
  | [], [], _, _ => exact ⟨.tuple #[], by simp, by simp only [atup, VR]; exact ⟨_, rfl, .nil⟩⟩
  | [x], [y], _, u2 =>
    obtain ⟨v, vs, e1, k1, _⟩ := u2.cons_inv
    cases e1
    exact ⟨y, by simp, k1⟩
  | x :: x' :: l, y :: y' :: us, _, u2 => exact ⟨.tuple (y :: y' :: us).toArray, by simp, by simp only [atup, VR]; exact ⟨_, rfl, u2⟩⟩
theorem acall_sim (hm : P.follows .mixedOrders = true) (hT : TOk P T) : ∀ n, CSim P w0 (acall T n)
  | 0 => fun _ _ _ _ _ e => by simp [acall] at e
  | n + 1 => fun f π args h r e μ w args' hargs R hf => by
    rcases call_inv.1 e with ⟨ifn, p, q1, q2, q3⟩ | ⟨ifn, ex, k, tm, h', l, h1, hpr, h2, h3, h4, rfl⟩
    · rcases hT f ifn q1 with ⟨fn, ps, ms, g1, g2⟩ | ⟨p', q4, q5⟩
      · rw [rfunc_prim g2] at q2; cases q2
      · rw [q2] at q4; cases q4; exact q5 w0 π args h r q3 μ w args' hargs R hf
    rcases hT f ifn h1 with ⟨fn, ps, ms, g1, g2⟩ | ⟨p', q4, q5⟩
    rotate_left
    · rw [hpr] at q4; cases q4
    unfold rfunc at g2
    split at g2
    · cases g2
    rename_i c hb
    split at g2
    · cases g2
    rename_i hname
    split at g2
    case h_2 => cases g2
    rename_i ic res hrsv hres
    cases g2
    refine ⟨by simp only [fnOk, g1, hb]; simpa using hname, ?_⟩
    refine calls_of_wp g1 hb ?_
    refine code_sim hm (acall_sim hm hT n) (acall_dom T n) (acall_join T n) n hrsv h2 (TR.enter hargs _) R (fun j q _ hs => hf j ((List.suffix_cons q π).trans hs)) ?_
    intro μ' a' w' k1 k2 k3 k4 k5
    obtain ⟨u, u1, u2⟩ := results_sim k4 k3 hres h4
    have post : a'.defers = [] ∧ ∃ v, (results fn a'.tmps).run P w' = .ok v w' ∧ (fun (e : Ending) (w' : World) => ∃ μ' v', e = .returned v' ∧ Ext μ μ' ∧ MDom π μ μ' ∧ VR μ' (atup l) v' ∧ Rel w0 μ' h' w') (.returned v) w' :=
      ⟨k5, u, u1, μ', u, rfl, k1, k2.dom, u2, k4⟩
    cases ex with
    | norm => exact post
    | ret => exact post
    | exit j => exact absurd rfl (h3 j)
end
end Go.Proofs.YtgekngfnhhdamaaM
