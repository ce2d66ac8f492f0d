/- What must hold ahead of a code of the machine, so that something holds behind it; no conditions. -/
import Derived.Test.YtgekngfnhhdamaaM24
set_option linter.unusedVariables false
set_option linter.unusedSimpArgs false
namespace Go.Proofs.YtgekngfnhhdamaaM
open Go

def Fresh (π : Id) (h : AH) : Prop := ∀ x, π <:+ x → h x = none
def HF (π : Id) (k : Nat) (h : AH) : Prop := ∀ x q, k ≤ q → (q :: π) <:+ x → h x = none
/-- A call comes to an answer of which Q holds. -/
def Sp (T : FuncId → Option IFunc) (f : FuncId) (args : List AV) (h : AH) (Q : AV → AH → Prop) : Prop := ∀ π, Fresh π h → ∃ n v h', acall T n f π args h = some (v, h') ∧ Q v h'
/-- A code comes to an end of which Q holds. -/
def W (T : FuncId → Option IFunc) (c : ICode) (tm : List AV) (h : AH) (Q : Ex → List AV → AH → Prop) : Prop := ∀ π k, HF π k h → ∃ n m e k' tm' h', aexec (acall T m) π n c k tm h = some (e, k', tm', h') ∧ Q e tm' h'
def N0 : CF := fun _ _ _ _ => none
/-- Does it take a new name? -/
def mkid : IOp → Bool
  | .alloc _ | .box _ _ | .buildS _ _ _ _ | .s2b _ | .mkS _ _ _ _ _ | .app _ _ _ _ | .appZ _ _ _ _ _ => true
  | _ => false
def calls : IOp → Bool
  | .callF _ _ | .callV _ _ => true
  | _ => false
def WOp (T : FuncId → Option IFunc) (op : IOp) (tm : List AV) (h : AH) (K : AV → AH → Prop) : Prop :=
  match op with
  | .callF f as => Sp T f (as.map (ev tm)) h K
  | .callV f as => ∃ g a b, ev tm f = .func g a b ∧ Sp T g (a ++ as.map (ev tm) ++ b) h K
  | op => if mkid op then ∀ id, h id = none → ∃ r, aop N0 id op tm h = some r ∧ K r.1 r.2 else ∃ r, aop N0 [] op tm h = some r ∧ K r.1 r.2
def WStep (T : FuncId → Option IFunc) (o : IOper) (tm : List AV) (h : AH) (K : List AV → AH → Prop) : Prop :=
  match o.guard with
  | none => WOp T o.op tm h fun v h' => K (putT tm o.dst v) h'
  | some g => ∃ b, awanted tm (some g) = some b ∧ (b = true → WOp T o.op tm h fun v h' => K (putT tm o.dst v) h') ∧ (b = false → K (putT tm o.dst (.tup [])) h)
def WChk (o : IOper) (tm : List AV) (h : AH) : Prop :=
  match o.guard with
  | none => (mkid o.op || calls o.op) = false ∧ ∃ r, aop N0 [] o.op tm h = some r ∧ putT tm o.dst r.1 = tm
  | some g => ∃ b, awanted tm (some g) = some b ∧ (b = true → (mkid o.op || calls o.op) = false ∧ ∃ r, aop N0 [] o.op tm h = some r ∧ putT tm o.dst r.1 = tm) ∧ (b = false → putT tm o.dst (.tup []) = tm)
def WPl (T : FuncId → Option IFunc) (ops : List IOper) : Steps' → List AV → AH → (List AV → AH → Prop) → Prop
  | [], tm, h, Q => Q tm h
  | (i, c) :: rest, tm, h, Q =>
    match ops[i]? with
    | none => False
    | some o => if c then WChk o tm h ∧ WPl T ops rest tm h Q else WStep T o tm h fun tm' h' => WPl T ops rest tm' h' Q
section
variable {T : FuncId → Option IFunc}
theorem acall_up {n m : Nat} (h : n ≤ m) {f : FuncId} {π : Id} {args : List AV} {hp : AH} {r : AV × AH} (e : acall T n f π args hp = some r) : acall T m f π args hp = some r := acall_mono T h _ _ _ _ _ e
theorem aop_noid {C : CF} {id : Id} {op : IOp} {tm : List AV} {h : AH} (hm : mkid op = false) (hc : calls op = false) : aop C id op tm h = aop N0 [] op tm h := by
  cases op <;> first | (exfalso; revert hm; simp [mkid]; done) | (exfalso; revert hc; simp [calls]; done) | rfl
theorem aop_id {C : CF} {id : Id} {op : IOp} {tm : List AV} {h : AH} (hc : calls op = false) : aop C id op tm h = aop N0 id op tm h := by
  cases op <;> first | (exfalso; revert hc; simp [calls]; done) | rfl
theorem WOp_sound {op : IOp} {tm : List AV} {h : AH} {K : AV → AH → Prop} (hw : WOp T op tm h K) {id : Id} (hf : Fresh id h) : ∃ m r, aop (acall T m) id op tm h = some r ∧ K r.1 r.2 := by
  by_cases hc : calls op = true
  · cases op <;> first | (exfalso; revert hc; simp [calls]; done) | skip
    · obtain ⟨n, v, h', e, k⟩ := hw id hf
      exact ⟨n, (v, h'), e, k⟩
    · obtain ⟨g, a, b, e1, hs⟩ := hw
      obtain ⟨n, v, h', e, k⟩ := hs id hf
      exact ⟨n, (v, h'), by simp only [aop, e1]; exact e, k⟩
  · have hc : calls op = false := by simpa using hc
    have hw' : if mkid op then ∀ id, h id = none → ∃ r, aop N0 id op tm h = some r ∧ K r.1 r.2 else ∃ r, aop N0 [] op tm h = some r ∧ K r.1 r.2 := by
      cases op <;> first | (exfalso; revert hc; simp [calls]; done) | exact hw
    split at hw'
    · obtain ⟨r, e, k⟩ := hw' id (hf id (List.suffix_refl _))
      exact ⟨0, r, by rw [aop_id hc]; exact e, k⟩
    · rename_i hm
      obtain ⟨r, e, k⟩ := hw'
      exact ⟨0, r, by rw [aop_noid (by simpa using hm) hc]; exact e, k⟩
theorem WStep_sound {o : IOper} {tm : List AV} {h : AH} {K : List AV → AH → Prop} (hw : WStep T o tm h K) {id : Id} (hf : Fresh id h) : ∃ m r, astep (acall T m) id o tm h = some r ∧ K r.1 r.2 := by
  unfold WStep at hw
  unfold astep
  split at hw
  · rename_i hg
    obtain ⟨m, r, e, k⟩ := WOp_sound hw hf
    exact ⟨m, (putT tm o.dst r.1, r.2), by rw [hg]; simp [awanted, e], k⟩
  · rename_i g hg
    obtain ⟨b, e1, h1, h2⟩ := hw
    rw [hg, e1]
    cases b with
    | true =>
      obtain ⟨m, r, e, k⟩ := WOp_sound (h1 rfl) hf
      exact ⟨m, (putT tm o.dst r.1, r.2), by simp [e], k⟩
    | false => exact ⟨0, _, rfl, h2 rfl⟩
theorem WChk_sound {o : IOper} {tm : List AV} {h : AH} (hw : WChk o tm h) (m : Nat) (id : Id) : ∃ h', astep (acall T m) id o tm h = some (tm, h') := by
  unfold WChk at hw
  unfold astep
  have key : (mkid o.op || calls o.op) = false ∧ (∃ r, aop N0 [] o.op tm h = some r ∧ putT tm o.dst r.1 = tm) → ∃ h', (aop (acall T m) id o.op tm h).map (fun r => (putT tm o.dst r.1, r.2)) = some (tm, h') := by
    rintro ⟨hm, r, e, k⟩
    simp only [Bool.or_eq_false_iff] at hm
    exact ⟨r.2, by simp only [aop_noid hm.1 hm.2, e, Option.map_some, k]⟩
  split at hw
  · rename_i hg; rw [hg]; simp only [awanted]; exact key hw
  · rename_i g hg
    obtain ⟨b, e1, h1, h2⟩ := hw
    rw [hg, e1]
    cases b with
    | true => exact key (h1 rfl)
    | false => exact ⟨h, by simp only [h2 rfl]⟩
theorem WPl_sound {ops : List IOper} {κ : Id} {Q : List AV → AH → Prop} : ∀ {plan : Steps'} {tm : List AV} {h : AH}, WPl T ops plan tm h Q → (xs plan).Nodup → (∀ i ∈ xs plan, Fresh (i :: κ) h) → ∃ m r, aplan (acall T m) κ ops plan tm h = some r ∧ Q r.1 r.2
  | [], tm, h, hw, _, _ => ⟨0, (tm, h), rfl, hw⟩
  | (i, c) :: rest, tm, h, hw, hn, hf => by
    unfold WPl at hw
    split at hw
    · exact hw.elim
    rename_i o ho
    cases c with
    | true =>
      simp only [if_true] at hw
      rw [xs_cons_c] at hn hf
      obtain ⟨m, r, e, k⟩ := WPl_sound hw.2 hn hf
      obtain ⟨h', e'⟩ := WChk_sound (T := T) hw.1 m (i :: κ)
      exact ⟨m, r, by rw [aplan_cons]; simp only [ho, e', if_true]; exact e, k⟩
    | false =>
      simp only [Bool.false_eq_true, if_false] at hw
      rw [xs_cons_x] at hn hf
      simp only [List.nodup_cons] at hn
      obtain ⟨m1, r1, e1, k1⟩ := WStep_sound hw (hf i (by simp))
      obtain ⟨m2, r2, e2, k2⟩ := WPl_sound k1 hn.2 (fun j hj x hx => by
        cases hq : r1.2 x with
        | none => rfl
        | some b =>
          rcases astep_dom (acall_dom T m1) e1 x (by rw [hq]; simp) with h1 | h1
          · exact absurd (hf j (by simp [hj]) x hx) h1
          · have := suffix_cons_eq h1 hx
            subst this
            exact absurd hj hn.1)
      refine ⟨max m1 m2, r2, ?_, k2⟩
      rw [aplan_cons]
      simp only [ho, astep_mono (acall_mono T (Nat.le_max_left m1 m2)) e1, Bool.false_eq_true, if_false]
      exact aplan_mono (acall_mono T (Nat.le_max_right m1 m2)) e2
theorem HF.step {C : CF} (hd : CDom C) {π : Id} {n : Nat} {c : ICode} {k : Nat} {tm : List AV} {h : AH} {e : Ex} {k' : Nat} {tm' : List AV} {h' : AH} (hf : HF π k h) (he : aexec C π n c k tm h = some (e, k', tm', h')) : HF π k' h' := by
  obtain ⟨d1, d2⟩ := aexec_dom hd he
  intro x q hq hs
  cases hx : h' x with
  | none => rfl
  | some b =>
    rcases d2 x (by rw [hx]; simp) with h1 | ⟨q', h1, h2, h3⟩
    · exact absurd (hf x q (by omega) hs) h1
    · have := suffix_cons_eq h3 hs
      omega
section
variable {c a b : ICode} {tm : List AV} {h : AH} {Q : Ex → List AV → AH → Prop}
theorem W.mono {Q' : Ex → List AV → AH → Prop} (hw : W T c tm h Q) (hq : ∀ e tm h, Q e tm h → Q' e tm h) : W T c tm h Q' := fun π k hf => by
  obtain ⟨n, m, e, k', tm', h', h1, h2⟩ := hw π k hf
  exact ⟨n, m, e, k', tm', h', h1, hq _ _ _ h2⟩
theorem Sp.mono {f : FuncId} {args : List AV} {Q Q' : AV → AH → Prop} (hs : Sp T f args h Q) (hq : ∀ v h', Q v h' → Q' v h') : Sp T f args h Q' := fun π hf => by
  obtain ⟨n, v, h', h1, h2⟩ := hs π hf
  exact ⟨n, v, h', h1, hq _ _ h2⟩
theorem W_skip (hq : Q .norm tm h) : W T .skip tm h Q := fun π k _ => ⟨1, 0, _, _, _, _, rfl, hq⟩
theorem W_exit {i : Nat} (hq : Q (.exit i) tm h) : W T (.exit i) tm h Q := fun π k _ => ⟨1, 0, _, _, _, _, rfl, hq⟩
theorem W_ret (hq : Q .ret tm h) : W T .ret tm h Q := fun π k _ => ⟨1, 0, _, _, _, _, rfl, hq⟩
theorem W_mask {l : List Nat} (hq : Q .norm (keep l 0 tm) h) : W T (.mask l) tm h Q := fun π k _ => ⟨1, 0, _, _, _, _, rfl, hq⟩
theorem W_reg {plan : Steps'} {ops : List IOper} (hn : nodupB (xs plan) = true) (hw : WPl T ops plan tm h fun tm' h' => Q .norm tm' h') : W T (.reg plan ops) tm h Q := fun π k hf => by
  obtain ⟨m, r, e, q⟩ := WPl_sound (κ := k :: π) hw (nodupB_spec hn) (fun i _ x hx => hf x k (Nat.le_refl _) ((List.suffix_cons i (k :: π)).trans hx))
  exact ⟨1, m, .norm, k + 1, r.1, r.2, reg_inv.2 ⟨r, e, rfl⟩, q⟩
def Then (Q1 : List AV → AH → Prop) (Q : Ex → List AV → AH → Prop) : Ex → List AV → AH → Prop
  | .norm, tm, h => Q1 tm h
  | e, tm, h => Q e tm h
theorem W_seq (hw : W T a tm h (Then (fun tm' h' => W T b tm' h' Q) Q)) : W T (.seq a b) tm h Q := fun π k hf => by
  obtain ⟨n, m, e, k', tm', h', h1, h2⟩ := hw π k hf
  cases e with
  | norm =>
    obtain ⟨n2, m2, e2, k2, tm2, h2', g1, g2⟩ := h2 π k' (hf.step (acall_dom T m) h1)
    exact ⟨max n n2 + 1, max m m2, e2, k2, tm2, h2', seq_inv.2 (.inl ⟨_, _, _, aexec_mono (acall_mono T (Nat.le_max_left m m2)) (Nat.le_max_left n n2) h1, aexec_mono (acall_mono T (Nat.le_max_right m m2)) (Nat.le_max_right n n2) g1⟩), g2⟩
  | exit i => exact ⟨n + 1, m, _, _, _, _, seq_inv.2 (.inr ⟨h1, by simp⟩), h2⟩
  | ret => exact ⟨n + 1, m, _, _, _, _, seq_inv.2 (.inr ⟨h1, by simp⟩), h2⟩
theorem W_cond {x : Opd} (t : Bool) (hx : ev tm x = .bool t) (h1 : t = true → W T a tm h Q) (h2 : t = false → W T b tm h Q) : W T (.cond x a b) tm h Q := fun π k hf => by
  cases t with
  | true =>
    obtain ⟨n, m, e, k', tm', h', g1, g2⟩ := h1 rfl π k hf
    exact ⟨n + 1, m, e, k', tm', h', cond_inv.2 (.inl ⟨hx, g1⟩), g2⟩
  | false =>
    obtain ⟨n, m, e, k', tm', h', g1, g2⟩ := h2 rfl π k hf
    exact ⟨n + 1, m, e, k', tm', h', cond_inv.2 (.inr ⟨hx, g1⟩), g2⟩
def InBlock (i : Nat) (Q : Ex → List AV → AH → Prop) : Ex → List AV → AH → Prop
  | .exit j, tm, h => Q (if j = i then .norm else .exit j) tm h
  | e, tm, h => Q e tm h
theorem W_block {i : Nat} (hw : W T a tm h (InBlock i Q)) : W T (.block i a) tm h Q := fun π k hf => by
  obtain ⟨n, m, e, k', tm', h', h1, h2⟩ := hw π k hf
  cases e with
  | exit j => exact ⟨n + 1, m, _, _, _, _, block_inv.2 (.inl ⟨_, _, _, _, h1, rfl⟩), h2⟩
  | norm => exact ⟨n + 1, m, _, _, _, _, block_inv.2 (.inr ⟨h1, by simp⟩), h2⟩
  | ret => exact ⟨n + 1, m, _, _, _, _, block_inv.2 (.inr ⟨h1, by simp⟩), h2⟩
/-- Rounds, counted down. -/
theorem W_loop (I : Nat → List AV → AH → Prop) : ∀ (n : Nat) {tm : List AV} {h : AH}, I n tm h → (∀ n tm h, I n tm h → W T a tm h (Then (fun tm' h' => ∃ n', n' < n ∧ I n' tm' h') Q)) → W T (.loop a) tm h Q := by
  intro n
  induction n using Nat.strongRecOn with
  | _ n ih =>
  intro tm h hI round π k hf
  obtain ⟨n1, m1, e, k', tm', h', h1, h2⟩ := round n tm h hI π k hf
  cases e with
  | norm =>
    obtain ⟨n', hn', hI'⟩ := h2
    obtain ⟨n2, m2, e2, k2, tm2, h2', g1, g2⟩ := ih n' hn' hI' round π k' (hf.step (acall_dom T m1) h1)
    exact ⟨max n1 n2 + 1, max m1 m2, e2, k2, tm2, h2', loop_inv.2 (.inl ⟨_, _, _, aexec_mono (acall_mono T (Nat.le_max_left m1 m2)) (Nat.le_max_left n1 n2) h1, aexec_mono (acall_mono T (Nat.le_max_right m1 m2)) (Nat.le_max_right n1 n2) g1⟩), g2⟩
  | exit i => exact ⟨n1 + 1, m1, _, _, _, _, loop_inv.2 (.inr ⟨h1, by simp⟩), h2⟩
  | ret => exact ⟨n1 + 1, m1, _, _, _, _, loop_inv.2 (.inr ⟨h1, by simp⟩), h2⟩
/-- What a function's body must come to. -/
def Rets (fn : IFunc) (Q : AV → AH → Prop) : Ex → List AV → AH → Prop
  | .exit _, _, _ => False
  | _, tm, h => ∃ l, ares tm h fn.res = some l ∧ Q (atup l) h
theorem Sp_of {f : FuncId} {fn : IFunc} (hT : T f = some fn) {args : List AV} {Q : AV → AH → Prop} (hw : W T fn.body (args ++ List.replicate (fn.nt - args.length) (.tup [])) h (Rets fn Q)) (hp : fn.prim = none := by rfl) : Sp T f args h Q := fun π hf => by
  obtain ⟨n, m, e, k', tm', h', h1, h2⟩ := hw π 0 (fun x q _ hs => hf x ((List.suffix_cons q π).trans hs))
  cases e with
  | exit i => exact h2.elim
  | norm =>
    obtain ⟨l, h3, h4⟩ := h2
    exact ⟨max n m + 1, _, _, call_inv.2 (.inr ⟨fn, _, _, _, _, l, hT, hp, aexec_mono (acall_mono T (Nat.le_max_right n m)) (Nat.le_max_left n m) h1, by simp, h3, rfl⟩), h4⟩
  | ret =>
    obtain ⟨l, h3, h4⟩ := h2
    exact ⟨max n m + 1, _, _, call_inv.2 (.inr ⟨fn, _, _, _, _, l, hT, hp, aexec_mono (acall_mono T (Nat.le_max_right n m)) (Nat.le_max_left n m) h1, by simp, h3, rfl⟩), h4⟩
theorem Sp_prim {f : FuncId} {fn : IFunc} {p : Prim} (hT : T f = some fn) (hp : fn.prim = some p) {args : List AV} {Q : AV → AH → Prop} (hq : ∀ π, Fresh π h → ∃ v h', p.run π args h = some (v, h') ∧ Q v h') : Sp T f args h Q := fun π hf => by
  obtain ⟨v, h', h1, h2⟩ := hq π hf
  exact ⟨1, v, h', call_inv.2 (.inl ⟨fn, p, hT, hp, h1⟩), h2⟩
end
end
/-- A law of numbers, truths and texts, in the model. -/
theorem law_plain {P : Program} (hm : P.follows .mixedOrders = true) {T : FuncId → Option IFunc} (hT : TOk P T) {f : FuncId} {args : List AV} {args' : Array Value} {w : World} (ha : VRs (fun _ => none) args args'.toList)
    (hs : Sp T f args (fun _ => none) fun v _ => v = .bool true) : Calls P f args' w fun e w' => e = .returned (.bool true) ∧ RowKit.Below w.heap.size w w' := by
  obtain ⟨n, v, h', h1, rfl⟩ := hs [1] (fun _ _ => rfl)
  obtain ⟨_, hc⟩ := acall_sim (w0 := w) hm hT n f [1] args _ _ h1 (fun _ => none) w args' ha ⟨RowKit.Below.refl _ _, (fun _ _ _ h => nomatch h), (fun _ _ _ _ _ _ _ h => nomatch h), (fun _ _ => rfl)⟩ (fun _ _ => rfl)
  refine hc.mono fun e w' hp => ?_
  obtain ⟨μ', v', rfl, _, _, hv, R⟩ := hp
  simp only [VR] at hv
  exact ⟨by rw [hv], R.below⟩
end Go.Proofs.YtgekngfnhhdamaaM
