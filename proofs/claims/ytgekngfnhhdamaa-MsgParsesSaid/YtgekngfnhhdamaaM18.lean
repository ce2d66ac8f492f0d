/- The orders of a region that draws: each comes to what the plan comes to; conditions: the plan is one (PlanOK), the names are free. -/
import Derived.Test.YtgekngfnhhdamaaM17
set_option linter.unusedVariables false
set_option linter.unusedSimpArgs false
namespace Go.Proofs.YtgekngfnhhdamaaM
open Go

abbrev Steps' := List (Nat × Bool)
/-- What a plan does: without what it looks at again. -/
def xs (p : Steps') : List Nat := p.filterMap fun s => if s.2 then none else some s.1
theorem xs_append (p q : Steps') : xs (p ++ q) = xs p ++ xs q := by simp [xs]
theorem xs_cons_x (i : Nat) (p : Steps') : xs ((i, false) :: p) = i :: xs p := by simp [xs]
theorem xs_cons_c (i : Nat) (p : Steps') : xs ((i, true) :: p) = xs p := by simp [xs]
structure Phases where
  phs : List (Steps' × Nat)
  last : Steps'
def Phases.pre (p : Phases) (k : Nat) : Steps' := (p.phs.take k).flatMap fun q => q.1 ++ [(q.2, false)]
def Phases.st (p : Phases) (k : Nat) : Steps' := match p.phs[k]? with | some q => q.1 | none => p.last
def Phases.flat (p : Phases) : Steps' := (p.phs.flatMap fun q => q.1 ++ [(q.2, false)]) ++ p.last
def opAll (o : IOper) : List Nat := opT o.op ++ gT o.guard
/-- A look at a row of bytes that this region has just made, and that nobody else is shown: it may come at any time. -/
def Priv (ops : List IOper) (B : Nat → List Nat) (p : Phases) (i : Nat) (o : IOper) : Prop :=
  ∃ (a d sz n : Nat) (zero : List AV) (parts : List (Nat × Opd)) (s1 s2 : Steps'), ops[a]? = some ⟨some d, .buildS sz n zero parts, none⟩ ∧ o.op = .b2s (.t d) ∧ o.guard = none ∧ a ∈ B i ∧ p.last = s1 ++ (i, false) :: s2 ∧ a ∈ xs s1
structure PlanOK (ops : List IOper) (B : Nat → List Nat) (p : Phases) : Prop where
  dst : ∀ (i j : Nat) (oi oj : IOper) (t : Nat), ops[i]? = some oi → ops[j]? = some oj → oi.dst = some t → oj.dst = some t → i = j
  reads : ∀ (i j : Nat) (oi oj : IOper) (t : Nat), ops[i]? = some oi → ops[j]? = some oj → oj.dst = some t → t ∈ opAll oi → j ∈ B i ∨ i ∈ B j
  nodup : (xs p.flat).Nodup
  all : ∀ i, i < ops.length → i ∈ xs p.flat
  eff : ∀ k q, p.phs[k]? = some q → (∃ o, ops[q.2]? = some o ∧ cls o.op = 3) ∧ (∀ j ∈ B q.2, j ∈ xs (p.pre k ++ q.1)) ∧ (∀ j q', j < k → p.phs[j]? = some q' → q'.2 ∈ B q.2) ∧ (∀ a ∈ xs q.1, ∀ o, ops[a]? = some o → cls o.op = 2 → a ∈ B q.2)
  step : ∀ k s1 i s2, p.st k = s1 ++ (i, false) :: s2 → k ≤ p.phs.length → ∃ o, ops[i]? = some o ∧ cls o.op ≠ 3 ∧ (∀ j ∈ B i, j ∈ xs (p.pre k ++ s1)) ∧ (cls o.op = 1 → ∀ a ∈ xs s1, ∀ o', ops[a]? = some o' → cls o'.op = 2 → a ∈ B i)
  chk : ∀ k s1 i s2, p.st k = s1 ++ (i, true) :: s2 → k ≤ p.phs.length → ∃ o, ops[i]? = some o ∧ cls o.op = 1 ∧ i ∈ xs (p.pre k ++ s1) ∧ (∀ j ∈ B i, j ∈ xs (p.pre k ++ s1)) ∧ (∀ a ∈ xs s1, ∀ o', ops[a]? = some o' → cls o'.op = 2 → a ∈ B i) ∧ (∀ j ∈ xs (p.pre k ++ s1), ∀ o', ops[j]? = some o' → ∀ t, o'.dst = some t → t ∈ opAll o → j ∈ B i)
  cover : ∀ k i o, k ≤ p.phs.length → ops[i]? = some o → cls o.op = 1 → (∀ j q, p.phs[j]? = some q → q.2 ∈ B i → j < k) → (∀ j q, j < k → p.phs[j]? = some q → i ∉ B q.2) → (∃ c, (i, c) ∈ p.st k) ∨ Priv ops B p i o
section
variable {C : CF} {κ : Id} {ops : List IOper}
open Classical in
theorem aplan_cons (i : Nat) (c : Bool) (p : Steps') (tm : List AV) (h : AH) : aplan C κ ops ((i, c) :: p) tm h =
    match ops[i]? with
    | none => none
    | some o =>
      match astep C (i :: κ) o tm h with
      | none => none
      | some (tm', h') => if c then (if tm' = tm then aplan C κ ops p tm h else none) else aplan C κ ops p tm' h' := rfl
theorem aplan_append : ∀ {p q : Steps'} {tm : List AV} {h : AH}, aplan C κ ops (p ++ q) tm h = (aplan C κ ops p tm h).bind fun r => aplan C κ ops q r.1 r.2
  | [], q, tm, h => by rw [List.nil_append, aplan]; rfl
  | (i, c) :: p, q, tm, h => by
    rw [List.cons_append, aplan_cons, aplan_cons]
    split
    · rfl
    · split
      · rfl
      · split
        · split
          · exact aplan_append
          · rfl
        · exact aplan_append
theorem step_val {id : Id} {o : IOper} {tm : List AV} {h : AH} {r : List AV × AH} (e : astep C id o tm h = some r) :
    ∃ v, r.1 = putT tm o.dst v ∧ ((awanted tm o.guard = some false ∧ v = .tup [] ∧ r.2 = h) ∨ (awanted tm o.guard = some true ∧ aop C id o.op tm h = some (v, r.2))) := by
  unfold astep at e
  split at e
  · rename_i hw
    obtain ⟨x, hx, rfl⟩ := Option.map_eq_some_iff.1 e
    exact ⟨x.1, rfl, .inr ⟨hw, hx⟩⟩
  · rename_i hw; cases e; exact ⟨_, rfl, .inl ⟨hw, rfl, rfl⟩⟩
  · cases e
theorem putT_len (tm : List AV) (d : Option Nat) (v : AV) : (putT tm d v).length = tm.length := by cases d <;> simp [putT]
theorem putT_other {tm : List AV} {d : Option Nat} {v : AV} {t : Nat} (h : d ≠ some t) : (putT tm d v).getD t .und = tm.getD t .und := by
  cases d with
  | none => rfl
  | some d =>
    simp only [putT, List.getD_eq_getElem?_getD]
    rw [List.getElem?_set_ne (fun e => h (by rw [e]))]
theorem putT_same {tm tm' : List AV} {d : Option Nat} {v : AV} {t : Nat} (h : d = some t) (hl : tm.length = tm'.length) : (putT tm d v).getD t .und = (putT tm' d v).getD t .und := by
  subst h
  simp only [putT, List.getD_eq_getElem?_getD, List.getElem?_set, if_true, hl]
theorem aplan_tm : ∀ {p : Steps'} {tm : List AV} {h : AH} {r : List AV × AH}, aplan C κ ops p tm h = some r → r.1.length = tm.length ∧ ∀ t, (∀ j ∈ xs p, ∀ o, ops[j]? = some o → o.dst ≠ some t) → r.1.getD t .und = tm.getD t .und
  | [], tm, h, r, e => by cases e; exact ⟨rfl, fun _ _ => rfl⟩
  | (i, c) :: p, tm, h, r, e => by
    unfold aplan at e
    split at e
    · cases e
    rename_i o ho
    split at e
    · cases e
    rename_i tm' h' hs
    obtain ⟨v, v1, _⟩ := step_val hs
    cases c with
    | true =>
      simp only [if_true] at e
      split at e
      · have := aplan_tm e
        exact ⟨this.1, fun t ht => this.2 t (by rw [xs_cons_c] at ht; exact ht)⟩
      · cases e
    | false =>
      simp only [Bool.false_eq_true, if_false] at e
      have := aplan_tm e
      simp only at v1
      refine ⟨by rw [this.1, v1, putT_len], fun t ht => ?_⟩
      rw [xs_cons_x] at ht
      rw [this.2 t (fun j hj => ht j (by simp [hj])), v1, putT_other (ht i (by simp) o ho)]
theorem aplan_names (hd : CDom C) : ∀ {p : Steps'} {tm : List AV} {h : AH} {r : List AV × AH}, aplan C κ ops p tm h = some r → ∀ x, r.2 x ≠ none → h x ≠ none ∨ ∃ j ∈ xs p, (j :: κ) <:+ x
  | [], tm, h, r, e, x, hx => by cases e; exact .inl hx
  | (i, c) :: p, tm, h, r, e, x, hx => by
    unfold aplan at e
    split at e
    · cases e
    rename_i o ho
    split at e
    · cases e
    rename_i tm' h' hs
    cases c with
    | true =>
      simp only [if_true] at e
      split at e
      · have := aplan_names hd e x hx
        rw [xs_cons_c]; exact this
      · cases e
    | false =>
      simp only [Bool.false_eq_true, if_false] at e
      rw [xs_cons_x]
      rcases aplan_names hd e x hx with h1 | ⟨j, h1, h2⟩
      · rcases astep_dom hd hs x h1 with h3 | h3
        · exact .inl h3
        · exact .inr ⟨i, by simp, h3⟩
      · exact .inr ⟨j, by simp [h1], h2⟩
end
end Go.Proofs.YtgekngfnhhdamaaM
