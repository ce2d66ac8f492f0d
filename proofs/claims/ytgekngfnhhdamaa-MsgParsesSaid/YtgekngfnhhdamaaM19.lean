/- The orders of a region that draws: each comes to what the plan comes to; conditions: the plan is one (PlanOK), the names are free. -/
import Derived.Test.YtgekngfnhhdamaaM18
set_option linter.unusedVariables false
set_option linter.unusedSimpArgs false
namespace Go.Proofs.YtgekngfnhhdamaaM
open Go
section
variable {C : CF} {κ : Id} {ops : List IOper} {B : Nat → List Nat} {p : Phases} {tm0 tmN : List AV} {h0 hN : AH}
/-- A part of the plan, and what it comes to. -/
theorem plan_part (e : aplan C κ ops p.flat tm0 h0 = some (tmN, hN)) {q q' : Steps'} (hq : p.flat = q ++ q') : ∃ tm h, aplan C κ ops q tm0 h0 = some (tm, h) ∧ aplan C κ ops q' tm h = some (tmN, hN) := by
  rw [hq, aplan_append] at e
  obtain ⟨⟨tm, h⟩, h1, h2⟩ := Option.bind_eq_some_iff.1 e
  exact ⟨tm, h, h1, h2⟩
theorem flat_pre (p : Phases) (k : Nat) (hk : k ≤ p.phs.length) : ∃ q', p.flat = p.pre k ++ q' := by
  refine ⟨((p.phs.drop k).flatMap fun q => q.1 ++ [(q.2, false)]) ++ p.last, ?_⟩
  unfold Phases.flat Phases.pre
  rw [← List.append_assoc, ← List.flatMap_append, List.take_append_drop]
theorem pre_succ {k : Nat} {q : Steps' × Nat} (hq : p.phs[k]? = some q) : p.pre (k + 1) = p.pre k ++ q.1 ++ [(q.2, false)] := by
  have hk := (List.getElem?_eq_some_iff.1 hq).1
  have : p.phs.take (k + 1) = p.phs.take k ++ [q] := by
    rw [List.take_succ_eq_append_getElem hk]
    congr 2
    exact Option.some.inj ((List.getElem?_eq_getElem hk).symm.trans hq)
  unfold Phases.pre
  rw [this, List.flatMap_append]
  simp [List.append_assoc]
theorem flat_st (p : Phases) (k : Nat) (hk : k ≤ p.phs.length) : ∃ q', p.flat = p.pre k ++ p.st k ++ q' := by
  by_cases hlt : k < p.phs.length
  · obtain ⟨q', hq'⟩ := flat_pre p (k + 1) hlt
    have hq : p.phs[k]? = some p.phs[k] := List.getElem?_eq_getElem hlt
    rw [pre_succ hq] at hq'
    refine ⟨[(p.phs[k].2, false)] ++ q', ?_⟩
    have : p.st k = p.phs[k].1 := by simp [Phases.st, hq]
    rw [hq', this]
    simp [List.append_assoc]
  · have hk' : k = p.phs.length := by omega
    subst hk'
    refine ⟨[], ?_⟩
    simp [Phases.flat, Phases.pre, Phases.st]
/-- What the slots hold when these operations are done. -/
structure TA (ops : List IOper) (tm0 tmN : List AV) (D : Nat → Prop) (tm : List AV) : Prop where
  len : tm.length = tm0.length
  done : ∀ j o t, D j → ops[j]? = some o → o.dst = some t → tm.getD t .und = tmN.getD t .und
  rest : ∀ t, (∀ j o, D j → ops[j]? = some o → o.dst ≠ some t) → tm.getD t .und = tm0.getD t .und
theorem TA.part (ok : PlanOK ops B p) (e : aplan C κ ops p.flat tm0 h0 = some (tmN, hN)) {q q' : Steps'} (hq : p.flat = q ++ q') {tm : List AV} {h : AH} (h1 : aplan C κ ops q tm0 h0 = some (tm, h)) (h2 : aplan C κ ops q' tm h = some (tmN, hN)) : TA ops tm0 tmN (· ∈ xs q) tm := by
  have a1 := aplan_tm h1
  have a2 := aplan_tm h2
  refine ⟨a1.1, fun j o t hj ho ht => ?_, fun t ht => a1.2 t fun j hj o ho => ht j o hj ho⟩
  refine (a2.2 t fun j' hj' o' ho' ht' => ?_).symm
  have := ok.dst j j' o o' t ho ho' ht ht'
  subst this
  have hn := ok.nodup
  rw [hq, xs_append, List.nodup_append] at hn
  exact hn.2.2 j hj j hj' rfl
def Closed (B : Nat → List Nat) (D : Nat → Prop) : Prop := ∀ j, D j → ∀ k ∈ B j, D k
theorem TA.agree (ok : PlanOK ops B p) {D D' : Nat → Prop} {tm tm' : List AV} (h : TA ops tm0 tmN D tm) (h' : TA ops tm0 tmN D' tm') {i : Nat} {o : IOper} (ho : ops[i]? = some o) (hB : ∀ j ∈ B i, D j) (hB' : ∀ j ∈ B i, D' j)
    (hn : ∀ j, i ∈ B j → ¬ D j) (hn' : ∀ j o' t, D' j → ops[j]? = some o' → o'.dst = some t → t ∈ opAll o → j ∈ B i) : Agree (opAll o) tm tm' := by
  intro t ht
  by_cases hw : ∃ (j : Nat) (oj : IOper), ops[j]? = some oj ∧ oj.dst = some t
  · obtain ⟨j, oj, h1, h2⟩ := hw
    rcases ok.reads i j o oj t ho h1 h2 ht with h3 | h3
    · rw [h.done j oj t (hB j h3) h1 h2, h'.done j oj t (hB' j h3) h1 h2]
    · by_cases hj : j ∈ B i
      · rw [h.done j oj t (hB j hj) h1 h2, h'.done j oj t (hB' j hj) h1 h2]
      · have e1 := h.rest t fun j' o' hD ho' ht' => by
          have := ok.dst j j' oj o' t h1 ho' h2 ht'
          subst this
          exact hn j h3 hD
        have e2 := h'.rest t fun j' o' hD ho' ht' => by
          have := ok.dst j j' oj o' t h1 ho' h2 ht'
          subst this
          exact hj (hn' j o' t hD ho' ht' ht)
        rw [e1, e2]
  · rw [h.rest t fun j o' _ ho' ht' => hw ⟨j, o', ho', ht'⟩, h'.rest t fun j o' _ ho' ht' => hw ⟨j, o', ho', ht'⟩]
/-- One more is done. -/
theorem TA.more {D : Nat → Prop} {tm : List AV} (ok : PlanOK ops B p) (h : TA ops tm0 tmN D tm) {i : Nat} {o : IOper} (ho : ops[i]? = some o) {v : AV} (hN : tmN.length = tm0.length) (hv : ∀ t, o.dst = some t → (putT tm0 o.dst v).getD t .und = tmN.getD t .und) :
    TA ops tm0 tmN (fun j => D j ∨ j = i) (putT tm o.dst v) := by
  refine ⟨by rw [putT_len]; exact h.len, fun j oj t hj hoj ht => ?_, fun t ht => ?_⟩
  · by_cases hd : o.dst = some t
    · rw [putT_same hd h.len, hv t hd]
    · rw [putT_other hd]
      rcases hj with hj | hj
      · exact h.done j oj t hj hoj ht
      · subst hj; rw [ho] at hoj; cases hoj; exact absurd ht hd
  · rw [putT_other (ht i o (.inr rfl) ho)]
    exact h.rest t fun j oj hj hoj => ht j oj (.inl hj) hoj
/-- What the operation at a place of the plan gives. -/
theorem plan_val (ok : PlanOK ops B p) (e : aplan C κ ops p.flat tm0 h0 = some (tmN, hN)) {q q' : Steps'} {i : Nat} {c : Bool} (hq : p.flat = q ++ (i, c) :: q') (hc : c = true → i ∈ xs q) :
    ∃ o tm h v h', ops[i]? = some o ∧ aplan C κ ops q tm0 h0 = some (tm, h) ∧ TA ops tm0 tmN (· ∈ xs q) tm ∧ astep C (i :: κ) o tm h = some (putT tm o.dst v, h') ∧ (c = false → aplan C κ ops (q ++ [(i, c)]) tm0 h0 = some (putT tm o.dst v, h')) ∧ ∀ t, o.dst = some t → (putT tm0 o.dst v).getD t .und = tmN.getD t .und := by
  obtain ⟨tm, h, h1, h2⟩ := plan_part e hq
  have hTA := TA.part ok e hq h1 h2
  rw [aplan_cons] at h2
  split at h2
  · cases h2
  rename_i o ho
  split at h2
  · cases h2
  rename_i tm' h' hs
  obtain ⟨v, v1, _⟩ := step_val hs
  simp only at v1
  subst v1
  refine ⟨o, tm, h, v, h', ho, h1, hTA, hs, fun hcf => ?_, fun t ht => ?_⟩
  · subst hcf
    rw [aplan_append, h1]
    simp only [Option.bind_some]
    rw [aplan_cons]
    simp only [ho, hs, Bool.false_eq_true, if_false]
    rw [aplan]
  · cases c with
    | true =>
      simp only [if_true] at h2
      split at h2
      · rename_i heq
        have h3 := hTA.done i o t (hc rfl) ho ht
        rw [← h3]
        rw [putT_same ht hTA.len.symm, heq]
      · cases h2
    | false =>
      simp only [Bool.false_eq_true, if_false] at h2
      have a2 := aplan_tm h2
      rw [putT_same ht hTA.len.symm]
      refine (a2.2 t fun j hj oj hoj htj => ?_).symm
      have := ok.dst i j o oj t ho hoj ht htj
      subst this
      have hn := ok.nodup
      rw [hq, xs_append, xs_cons_x, List.nodup_append] at hn
      exact (List.nodup_cons.1 hn.2.1).1 hj
end
end Go.Proofs.YtgekngfnhhdamaaM
