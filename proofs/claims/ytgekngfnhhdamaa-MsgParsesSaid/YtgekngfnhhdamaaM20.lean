/- The orders of a region that draws: each comes to what the plan comes to; conditions: the plan is one (PlanOK), the names are free. -/
import Derived.Test.YtgekngfnhhdamaaM19
set_option linter.unusedVariables false
set_option linter.unusedSimpArgs false
namespace Go.Proofs.YtgekngfnhhdamaaM
open Go
section
variable {C : CF} {κ : Id} {ops : List IOper} {B : Nat → List Nat} {p : Phases} {tm0 tmN : List AV} {h0 hN : AH}
theorem mem_xs : ∀ {q : Steps'} {i : Nat}, i ∈ xs q → ∃ a b, q = a ++ (i, false) :: b
  | [], i, h => by simp [xs] at h
  | (j, true) :: q, i, h => by
    rw [xs_cons_c] at h
    obtain ⟨a, b, rfl⟩ := mem_xs h
    exact ⟨(j, true) :: a, b, rfl⟩
  | (j, false) :: q, i, h => by
    rw [xs_cons_x] at h
    rcases List.mem_cons.1 h with rfl | h
    · exact ⟨[], q, rfl⟩
    · obtain ⟨a, b, rfl⟩ := mem_xs h
      exact ⟨(j, false) :: a, b, rfl⟩
theorem pos_list : ∀ {phs : List (Steps' × Nat)} {last q q' : Steps'} {i : Nat} {c : Bool}, (phs.flatMap fun q => q.1 ++ [(q.2, false)]) ++ last = q ++ (i, c) :: q' →
    (∃ k s1 s2, k ≤ phs.length ∧ (match phs[k]? with | some q => q.1 | none => last) = s1 ++ (i, c) :: s2 ∧ q = ((phs.take k).flatMap fun q => q.1 ++ [(q.2, false)]) ++ s1) ∨
    (∃ k ph, phs[k]? = some ph ∧ q = ((phs.take k).flatMap fun q => q.1 ++ [(q.2, false)]) ++ ph.1 ∧ i = ph.2 ∧ c = false)
  | [], last, q, q', i, c, h => .inl ⟨0, q, q', Nat.le_refl _, by simpa using h, by simp⟩
  | ph :: phs, last, q, q', i, c, h => by
    rw [List.flatMap_cons, List.append_assoc, List.append_assoc] at h
    rcases List.append_eq_append_iff.1 h with ⟨a, h1, h2⟩ | ⟨a, h1, h2⟩
    · -- q = ph.1 ++ a
      cases a with
      | nil =>
        simp only [List.nil_append, List.cons_append] at h2
        injection h2 with h3 h4
        injection h3 with h5 h6
        exact .inr ⟨0, ph, rfl, by simpa using h1, h5.symm, h6.symm⟩
      | cons x a =>
        simp only [List.cons_append, List.nil_append] at h2
        injection h2 with h3 h4
        subst h3
        rcases pos_list h4 with ⟨k, s1, s2, k1, k2, k3⟩ | ⟨k, ph', k1, k2, k3⟩
        · exact .inl ⟨k + 1, s1, s2, by simpa using k1, by simpa using k2, by rw [h1, k3]; simp [List.append_assoc]⟩
        · exact .inr ⟨k + 1, ph', by simpa using k1, by rw [h1, k2]; simp [List.append_assoc], k3⟩
    · cases a with
      | nil =>
        simp only [List.append_nil] at h1
        simp only [List.nil_append, List.cons_append] at h2
        injection h2 with h3 h4
        injection h3 with h5 h6
        exact .inr ⟨0, ph, rfl, by simpa using h1.symm, h5, h6⟩
      | cons x a =>
        simp only [List.cons_append] at h2
        injection h2 with h3 h4
        subst h3
        exact .inl ⟨0, q, a, Nat.zero_le _, by simpa using h1, by simp⟩
theorem pos_cases {q q' : Steps'} {i : Nat} {c : Bool} (h : p.flat = q ++ (i, c) :: q') : (∃ k s1 s2, k ≤ p.phs.length ∧ p.st k = s1 ++ (i, c) :: s2 ∧ q = p.pre k ++ s1) ∨ (∃ k ph, p.phs[k]? = some ph ∧ q = p.pre k ++ ph.1 ∧ i = ph.2 ∧ c = false) := pos_list h
theorem plan_before (ok : PlanOK ops B p) {q q' : Steps'} {i : Nat} (h : p.flat = q ++ (i, false) :: q') : (∃ o, ops[i]? = some o) ∧ ∀ j ∈ B i, j ∈ xs q := by
  rcases pos_cases h with ⟨k, s1, s2, k1, k2, rfl⟩ | ⟨k, ph, k1, rfl, rfl, _⟩
  · obtain ⟨o, h1, h2, h3, h4⟩ := ok.step k s1 i s2 k2 k1
    exact ⟨⟨o, h1⟩, h3⟩
  · obtain ⟨⟨o, h1, _⟩, h2, _⟩ := ok.eff k ph k1
    exact ⟨⟨o, h1⟩, h2⟩
theorem plan_closed (ok : PlanOK ops B p) {q q' : Steps'} (h : p.flat = q ++ q') : Closed B (· ∈ xs q) := by
  intro j hj k hk
  obtain ⟨a, b, rfl⟩ := mem_xs hj
  have := (plan_before ok (i := j) (q := a) (q' := b ++ q') (by rw [h]; simp)).2 k hk
  rw [xs_append]; exact List.mem_append_left _ this
theorem plan_new (ok : PlanOK ops B p) {q q' : Steps'} {i : Nat} (h : p.flat = q ++ (i, false) :: q') : i ∉ xs q := by
  have hn := ok.nodup
  rw [h, xs_append, xs_cons_x, List.nodup_append] at hn
  intro hi
  exact hn.2.2 i hi i (by simp) rfl
/-- The block that an operation makes, where it makes one. -/
def Good (C : CF) (κ : Id) (ops : List IOper) (p : Phases) (tm0 tmN : List AV) (i : Nat) (ob : Option Blk) : Prop :=
  (ops[i]? = none → ob = none) ∧ ∀ o, ops[i]? = some o → (cls o.op ≠ 2 → ob = none) ∧ (cls o.op = 2 → ∃ q q' v tmq, p.flat = q ++ (i, false) :: q' ∧ TA ops tm0 tmN (· ∈ xs q) tmq ∧ (∀ t, o.dst = some t → (putT tm0 o.dst v).getD t .und = tmN.getD t .und) ∧
    ∀ tm, Agree (opAll o) tmq tm → ∀ h2, astep C (i :: κ) o tm h2 = some (putT tm o.dst v, match ob with | some b => h2.set (i :: κ) (some b) | none => h2))
theorem agree_parts {o : IOper} {tm tm' : List AV} (h : Agree (opAll o) tm tm') : Agree (opT o.op) tm tm' ∧ Agree (gT o.guard) tm tm' := ⟨Agree.left h, Agree.right h⟩
theorem astep_agree {id : Id} {o : IOper} {tm tm' : List AV} {h : AH} (hag : Agree (opAll o) tm tm') {v : AV} {h' : AH} (e : astep C id o tm h = some (putT tm o.dst v, h')) (he : ∃ x, astep C id o tm h = some x ∧ ((awanted tm o.guard = some false ∧ v = .tup [] ∧ h' = h) ∨ (awanted tm o.guard = some true ∧ aop C id o.op tm h = some (v, h')))) :
    astep C id o tm' h = some (putT tm' o.dst v, h') := by
  obtain ⟨x, _, h2⟩ := he
  obtain ⟨g1, g2⟩ := agree_parts hag
  unfold astep
  rw [← awanted_agree g2, ← aop_agree g1]
  rcases h2 with ⟨h3, rfl, rfl⟩ | ⟨h3, h4⟩
  · rw [h3]
  · rw [h3, h4]; rfl
theorem good_ex (ok : PlanOK ops B p) (e : aplan C κ ops p.flat tm0 h0 = some (tmN, hN)) : ∀ i, ∃ ob, Good C κ ops p tm0 tmN i ob := by
  intro i
  by_cases hi : ∃ o, ops[i]? = some o
  case neg => exact ⟨none, fun _ => rfl, fun o ho => absurd ⟨o, ho⟩ hi⟩
  obtain ⟨o, ho⟩ := hi
  by_cases hc : cls o.op = 2
  case neg => exact ⟨none, fun _ => rfl, fun o' ho' => by rw [ho] at ho'; cases ho'; exact ⟨fun _ => rfl, fun h => absurd h hc⟩⟩
  obtain ⟨q, q', hq⟩ := mem_xs (ok.all i (List.getElem?_eq_some_iff.1 ho).1)
  obtain ⟨o', tm, h, v, h', h1, h2, h3, h4, h5, h6⟩ := plan_val ok e hq (by simp)
  rw [ho] at h1; cases h1
  obtain ⟨v', v1, v2⟩ := step_val h4
  simp only at v1 v2
  -- the value may be told by either name
  have h6' : ∀ t, o.dst = some t → (putT tm0 o.dst v').getD t .und = tmN.getD t .und := fun t ht => by
    rw [← h6 t ht, putT_same ht h3.len.symm, putT_same ht h3.len.symm, v1]
  rcases v2 with ⟨w1, rfl, rfl⟩ | ⟨w1, w2⟩
  · refine ⟨none, fun _ => rfl, fun o' ho' => ?_⟩
    rw [ho] at ho'; cases ho'
    refine ⟨fun _ => rfl, fun _ => ⟨q, q', _, tm, hq, h3, h6', fun tm2 hag h2 => ?_⟩⟩
    obtain ⟨g1, g2⟩ := agree_parts hag
    unfold astep
    rw [← awanted_agree g2, w1]
  · obtain ⟨b, b1, b2⟩ := cls2 hc w2
    refine ⟨some b, ⟨fun hn => absurd hn (by rw [ho]; simp), fun o' ho' => ?_⟩⟩
    rw [ho] at ho'; cases ho'
    refine ⟨fun hh => absurd hc hh, fun _ => ⟨q, q', v', tm, hq, h3, h6', fun tm2 hag h2 => ?_⟩⟩
    obtain ⟨g1, g2⟩ := agree_parts hag
    unfold astep
    rw [← awanted_agree g2, w1, ← aop_agree g1, b2 h2]
    rfl
end
end Go.Proofs.YtgekngfnhhdamaaM
