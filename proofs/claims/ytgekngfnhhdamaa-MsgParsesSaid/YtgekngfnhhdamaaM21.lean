/- The orders of a region that draws: each comes to what the plan comes to; conditions: the plan is one (PlanOK), the names are free. -/
import Derived.Test.YtgekngfnhhdamaaM20
set_option linter.unusedVariables false
set_option linter.unusedSimpArgs false
namespace Go.Proofs.YtgekngfnhhdamaaM
open Go
open Classical in
noncomputable def XS (κ : Id) (bl : Nat → Option Blk) (S : Nat → Prop) : AH
  | a :: κ' => if κ' = κ ∧ S a then bl a else none
  | [] => none
section
variable {C : CF} {κ : Id} {ops : List IOper} {B : Nat → List Nat} {p : Phases} {tm0 tmN : List AV} {h0 hN : AH} {bl : Nat → Option Blk}
open Classical in
theorem XS_cons (S : Nat → Prop) (a : Nat) (κ' : Id) : XS κ bl S (a :: κ') = if κ' = κ ∧ S a then bl a else none := rfl
theorem XS_at (S : Nat → Prop) (a : Nat) (h : S a) : XS κ bl S (a :: κ) = bl a := by simp [XS, h]
theorem XS_no (S : Nat → Prop) (a : Nat) (h : ¬ S a) : XS κ bl S (a :: κ) = none := by simp [XS, h]
theorem XS_some {S : Nat → Prop} {x : Id} (h : XS κ bl S x ≠ none) : ∃ a, x = a :: κ ∧ S a := by
  cases x with
  | nil => simp [XS] at h
  | cons a κ' =>
    simp only [XS] at h
    split at h
    · rename_i hk; exact ⟨a, by rw [hk.1], hk.2⟩
    · exact absurd rfl h
theorem XS_congr {S S' : Nat → Prop} (h : ∀ a, bl a ≠ none → (S a ↔ S' a)) : XS κ bl S = XS κ bl S' := by
  funext x
  cases x with
  | nil => rfl
  | cons a κ' =>
    rw [XS_cons, XS_cons]
    by_cases hb : bl a = none
    · rw [hb]; split <;> split <;> rfl
    · have := h a hb
      by_cases hs : κ' = κ ∧ S a
      · rw [if_pos hs, if_pos ⟨hs.1, this.1 hs.2⟩]
      · rw [if_neg hs, if_neg (fun hh => hs ⟨hh.1, this.2 hh.2⟩)]
theorem XS_join_set {H : AH} {S : Nat → Prop} {i : Nat} (hH : H (i :: κ) = none) : (match bl i with | some b => (H.join (XS κ bl S)).set (i :: κ) (some b) | none => H.join (XS κ bl S)) = H.join (XS κ bl fun a => S a ∨ a = i) := by
  cases hb : bl i with
  | none =>
    simp only []
    rw [XS_congr (S := S) (S' := fun a => S a ∨ a = i)]
    intro a ha
    constructor
    · exact .inl
    · rintro (h | rfl)
      · exact h
      · exact absurd hb ha
  | some b =>
    simp only []
    funext x
    simp only [AH.set, AH.join]
    by_cases hx : x = i :: κ
    · subst hx
      rw [if_pos rfl, hH]
      simp only []
      rw [XS_at _ _ (.inr rfl), hb]
    · rw [if_neg hx]
      cases H x with
      | some _ => rfl
      | none =>
        simp only []
        cases x with
        | nil => rfl
        | cons a κ' =>
          rw [XS_cons, XS_cons]
          by_cases hk : κ' = κ ∧ S a
          · rw [if_pos hk, if_pos ⟨hk.1, .inl hk.2⟩]
          · rw [if_neg hk, if_neg (fun hh => hh.2.elim (fun hs => hk ⟨hh.1, hs⟩) (fun e => hx (by rw [hh.1, e])))]
theorem XS_empty {S : Nat → Prop} {H : AH} (h : ∀ a, ¬ S a) : H.join (XS κ bl S) = H := by
  funext x
  simp only [AH.join]
  cases hx : H x with
  | some _ => rfl
  | none =>
    simp only []
    cases hq : XS κ bl S x with
    | none => rfl
    | some b => obtain ⟨a, _, ha⟩ := XS_some (κ := κ) (bl := bl) (S := S) (x := x) (by rw [hq]; simp); exact absurd ha (h a)
theorem plan_free (hd : CDom C) (hfree : ∀ x, κ <:+ x → h0 x = none) {q : Steps'} {tm : List AV} {h : AH} (h1 : aplan C κ ops q tm0 h0 = some (tm, h)) {i : Nat} (hi : i ∉ xs q) : h (i :: κ) = none := by
  cases hq : h (i :: κ) with
  | none => rfl
  | some b =>
    rcases aplan_names hd h1 (i :: κ) (by show h (i :: κ) ≠ none; rw [hq]; simp) with h2 | ⟨j, h2, h3⟩
    · exact absurd (hfree _ (List.suffix_cons i κ)) h2
    · have := suffix_cons_eq h3 (List.suffix_refl (i :: κ))
      subst this
      exact absurd h2 hi
theorem XS_join_join {H : AH} {S S1 : Nat → Prop} (h : ∀ a, bl a ≠ none → S1 a → S a) : H.join (XS κ bl S) = (H.join (XS κ bl S1)).join (XS κ bl fun a => S a ∧ ¬ S1 a) := by
  funext x
  simp only [AH.join]
  cases hx : H x with
  | some _ => rfl
  | none =>
    simp only []
    cases x with
    | nil => rfl
    | cons a κ' =>
      by_cases hk : κ' = κ
      · subst hk
        by_cases hb : bl a = none
        · have e : ∀ T, XS κ' bl T (a :: κ') = none := fun T => by rw [XS_cons, hb]; split <;> rfl
          rw [e, e, e]
        · by_cases h1 : S1 a
          · rw [XS_at _ _ (h a hb h1), XS_at _ _ h1]
            cases hba : bl a with
            | none => exact absurd hba hb
            | some b => rfl
          · rw [XS_no S1 _ h1]
            by_cases h2 : S a
            · rw [XS_at _ _ h2, XS_at _ _ ⟨h2, h1⟩]
            · rw [XS_no _ _ h2, XS_no _ _ (fun hh => h2 hh.1)]
      · have e : ∀ T, XS κ bl T (a :: κ') = none := fun T => by rw [XS_cons, if_neg (fun hh => hk hh.1)]
        rw [e, e, e]
/-- The heap inside a phase. -/
theorem plan_heap (hd : CDom C) (ok : PlanOK ops B p) (e : aplan C κ ops p.flat tm0 h0 = some (tmN, hN)) (hfree : ∀ x, κ <:+ x → h0 x = none) (hg : ∀ i, Good C κ ops p tm0 tmN i (bl i)) {k : Nat} (hk : k ≤ p.phs.length) {tmk : List AV} {Hk : AH} (hpre : aplan C κ ops (p.pre k) tm0 h0 = some (tmk, Hk)) :
    ∀ (n : Nat) {s1 s2 : Steps'} {tm : List AV} {h : AH}, s1.length = n → p.st k = s1 ++ s2 → aplan C κ ops (p.pre k ++ s1) tm0 h0 = some (tm, h) → h = Hk.join (XS κ bl (· ∈ xs s1))
  | 0, s1, s2, tm, h, hl, hs, h1 => by
    have : s1 = [] := List.eq_nil_of_length_eq_zero hl
    subst this
    rw [List.append_nil, hpre] at h1
    cases h1
    exact (XS_empty (by simp [xs])).symm
  | n + 1, s1, s2, tm, h, hl, hs, h1 => by
    obtain ⟨s', x, rfl⟩ : ∃ s' x, s1 = s' ++ [x] := by
      rcases List.eq_nil_or_concat s1 with rfl | ⟨s', x, h⟩
      · simp at hl
      · exact ⟨s', x, by simpa using h⟩
    obtain ⟨i, c⟩ := x
    obtain ⟨q', hq'⟩ := flat_st p k hk
    have hfl : p.flat = (p.pre k ++ s') ++ (i, c) :: (s2 ++ q') := by rw [hq', hs]; simp [List.append_assoc]
    rw [← List.append_assoc, aplan_append] at h1
    obtain ⟨⟨tm1, h2⟩, e1, e2⟩ := Option.bind_eq_some_iff.1 h1
    have ih := plan_heap hd ok e hfree hg hk hpre n (s1 := s') (s2 := (i, c) :: s2) (by simpa using hl) (by rw [hs]; simp) e1
    obtain ⟨_, _, e1', e2'⟩ := plan_part e hfl
    rw [e1] at e1'; cases e1'
    have hTA := TA.part ok e hfl e1 e2'
    rw [aplan_cons] at e2
    split at e2
    · cases e2
    rename_i o ho
    split at e2
    · cases e2
    rename_i tm2 h3 hst
    cases c with
    | true =>
      simp only [if_true] at e2
      split at e2
      · rw [aplan] at e2; cases e2
        rw [ih, xs_append, xs_cons_c]; simp [xs]
      · cases e2
    | false =>
      simp only [Bool.false_eq_true, if_false] at e2
      rw [aplan] at e2; cases e2
      obtain ⟨o', ho', hc3, hB, _⟩ := ok.step k s' i s2 (by rw [hs]; simp) hk
      rw [ho] at ho'; cases ho'
      have hnew := plan_new ok hfl
      have hni : i ∉ xs (p.pre k) := fun hh => hnew (by rw [xs_append]; exact List.mem_append_left _ hh)
      have hHi := plan_free hd hfree hpre hni
      have hS : (fun a => a ∈ xs (s' ++ [(i, false)])) = fun a => a ∈ xs s' ∨ a = i := by
        funext a; rw [xs_append, xs_cons_x]; simp [xs]
      rw [hS, ← XS_join_set hHi, ← ih]
      obtain ⟨gn, ga⟩ := (hg i).2 o ho
      by_cases hc : cls o.op = 2
      · obtain ⟨q, q2, v, tmq, hq, hTq, _, hall⟩ := ga hc
        have hcl := plan_closed ok hfl
        have hclq := plan_closed ok hq
        have hag : Agree (opAll o) tmq tm1 := TA.agree ok hTq hTA ho (plan_before ok hq).2 (plan_before ok hfl).2 (fun j hj hjq => plan_new ok hq (hclq j hjq i hj)) (fun j oj t hj hoj ht hto => by
          rcases ok.reads i j o oj t ho hoj ht hto with h4 | h4
          · exact h4
          · exact absurd (hcl j hj i h4) hnew)
        have := hall tm1 hag h2
        rw [hst] at this
        cases hbi : bl i with
        | none => rw [hbi] at this; simp only [Option.some.injEq, Prod.mk.injEq] at this; exact this.2
        | some b => rw [hbi] at this; simp only [Option.some.injEq, Prod.mk.injEq] at this; exact this.2
      · rw [gn hc]
        simp only []
        obtain ⟨v, v1, v2⟩ := step_val hst
        rcases v2 with ⟨_, _, h4⟩ | ⟨_, h4⟩
        · exact h4
        · have hcls : cls o.op = 0 ∨ cls o.op = 1 := by
            have : cls o.op < 4 := by unfold cls; split <;> omega
            omega
          rcases hcls with h5 | h5
          · exact (cls0 h5 h4).1
          · exact cls1 h5 h4
/-- An order, each operation once, behind what it waits for. -/
def TopoB (n : Nat) (B : Nat → List Nat) : (Nat → Prop) → List Nat → Prop
  | D, [] => ∀ i, i < n → D i
  | D, i :: l => ¬ D i ∧ i < n ∧ (∀ j ∈ B i, D j) ∧ TopoB n B (fun j => D j ∨ j = i) l
theorem conf (hd : CDom C) (hc : CFrame C) (ok : PlanOK ops B p) (e : aplan C κ ops p.flat tm0 h0 = some (tmN, hN)) (hfree : ∀ x, κ <:+ x → h0 x = none) (hg : ∀ i, Good C κ ops p tm0 tmN i (bl i)) :
    ∀ {l : List Nat} {D : Nat → Prop} {tm : List AV} {h : AH} {k : Nat} {tmk : List AV} {Hk : AH}, TopoB ops.length B D l → TA ops tm0 tmN D tm → Closed B D → (∀ i, D i → i < ops.length) → k ≤ p.phs.length → aplan C κ ops (p.pre k) tm0 h0 = some (tmk, Hk) →
      (∀ j q, p.phs[j]? = some q → (D q.2 ↔ j < k)) → (∀ i ∈ xs (p.pre k), bl i ≠ none → D i) → h = Hk.join (XS κ bl fun a => D a ∧ a ∉ xs (p.pre k)) → aseq C κ ops l tm h = some (tmN, hN)
  | [], D, tm, h, k, tmk, Hk, ht, hTA, hcl, hDn, hk, hpre, hE, hA, hh => by
    simp only [TopoB] at ht
    have hkK : k = p.phs.length := by
      by_cases hlt : k < p.phs.length
      · obtain ⟨⟨o, ho, _⟩, _⟩ := ok.eff k p.phs[k] (List.getElem?_eq_getElem hlt)
        have := (hE k p.phs[k] (List.getElem?_eq_getElem hlt)).1 (ht _ (List.getElem?_eq_some_iff.1 ho).1)
        omega
      · omega
    obtain ⟨q', hq'⟩ := flat_st p k hk
    have hstl : p.st k = p.last := by subst hkK; simp [Phases.st]
    have hfl : p.flat = p.pre k ++ p.last := by
      subst hkK; simp [Phases.flat, Phases.pre]
    have htm : tm = tmN := by
      have hl : tmN.length = tm0.length := (aplan_tm e).1
      apply List.ext_getElem?
      intro t
      by_cases htl : t < tm.length
      · have h1 : tm.getD t .und = tmN.getD t .und := by
          by_cases hw : ∃ (j : Nat) (oj : IOper), ops[j]? = some oj ∧ oj.dst = some t
          · obtain ⟨j, oj, h1, h2⟩ := hw
            exact hTA.done j oj t (ht j (List.getElem?_eq_some_iff.1 h1).1) h1 h2
          · rw [hTA.rest t fun j o' _ ho' ht' => hw ⟨j, o', ho', ht'⟩, (aplan_tm e).2 t fun j hj o' ho' ht' => hw ⟨j, o', ho', ht'⟩]
        have htl2 : t < tmN.length := by rw [hl, ← hTA.len]; exact htl
        simp only [List.getD_eq_getElem?_getD, List.getElem?_eq_getElem htl, List.getElem?_eq_getElem htl2, Option.getD_some] at h1
        rw [List.getElem?_eq_getElem htl, List.getElem?_eq_getElem htl2, h1]
      · rw [List.getElem?_eq_none (by omega), List.getElem?_eq_none (by rw [hl, ← hTA.len]; omega)]
    have hheap := plan_heap hd ok e hfree hg hk hpre _ (s1 := p.last) (s2 := []) (tm := tmN) (h := hN) rfl (by rw [hstl]; simp) (by rw [← hfl]; exact e)
    have : h = hN := by
      rw [hh, hheap, XS_congr]
      intro a ha
      have hal : a < ops.length := by
        by_cases h1 : a < ops.length
        · exact h1
        · exact absurd ((hg a).1 (List.getElem?_eq_none (by omega))) ha
      constructor
      · rintro ⟨h1, h2⟩
        have := ok.all a hal
        rw [hfl, xs_append] at this
        exact (List.mem_append.1 this).resolve_left h2
      · intro h1
        refine ⟨ht a hal, fun h2 => ?_⟩
        have hn := ok.nodup
        rw [hfl, xs_append, List.nodup_append] at hn
        exact hn.2.2 a h2 a h1 rfl
    rw [htm, this, aseq]
  | i :: l, D, tm, h, k, tmk, Hk, ht, hTA, hcl, hDn, hk, hpre, hE, hA, hh => by
    obtain ⟨hDi, hin, hBi, ht'⟩ := ht
    have ho : ops[i]? = some ops[i] := List.getElem?_eq_getElem hin
    generalize ops[i] = o at ho
    have hlN : tmN.length = tm0.length := (aplan_tm e).1
    have hnD : ∀ j, i ∈ B j → ¬ D j := fun j hj hjD => hDi (hcl j hjD i hj)
    have hcl' : Closed B (fun j => D j ∨ j = i) := fun j hj x hx => by
      rcases hj with hj | rfl
      · exact .inl (hcl j hj x hx)
      · exact .inl (hBi x hx)
    have hDn' : ∀ j, (D j ∨ j = i) → j < ops.length := fun j hj => hj.elim (hDn j) fun e => e ▸ hin
    obtain ⟨hg0, hg1⟩ := hg i
    obtain ⟨gn, ga⟩ := hg1 o ho
    -- an effect is the next one of the plan
    have hEsame : cls o.op ≠ 3 → ∀ j q, p.phs[j]? = some q → ((D q.2 ∨ q.2 = i) ↔ j < k) := fun hc3 j q hq => by
      rw [← hE j q hq]
      refine ⟨fun hh => hh.elim id fun e3 => ?_, .inl⟩
      obtain ⟨⟨o', ho', hc'⟩, _⟩ := ok.eff j q hq
      rw [e3, ho] at ho'; cases ho'
      exact absurd hc' hc3
    have hcl4 : cls o.op < 4 := by unfold cls; split <;> omega
    have hcase : cls o.op = 0 ∨ cls o.op = 1 ∨ cls o.op = 2 ∨ cls o.op = 3 := by omega
    have agq : ∀ {q q' : Steps'} {tmq : List AV}, p.flat = q ++ (i, false) :: q' → TA ops tm0 tmN (· ∈ xs q) tmq → Agree (opAll o) tmq tm := fun {q q' tmq} hq hTq => by
      have := TA.agree ok hTA hTq ho hBi (plan_before ok hq).2 hnD (fun j oj t hj hoj htt hto => by
        rcases ok.reads i j o oj t ho hoj htt hto with h4 | h4
        · exact h4
        · exact absurd (plan_closed ok hq j hj i h4) (plan_new ok hq))
      exact fun t ht => (this t ht).symm
    rcases hcase with hc0 | hc1 | hc2 | hc3
    · -- it only computes
      obtain ⟨q, q', hq⟩ := mem_xs (ok.all i hin)
      obtain ⟨o', tmq, hq1, v, h', h1, h2, h3, h4, h5, h6⟩ := plan_val ok e hq (by simp)
      rw [ho] at h1; cases h1
      obtain ⟨g1, g2⟩ := agree_parts (agq hq h3)
      obtain ⟨v', v1, v2⟩ := step_val h4
      simp only at v1 v2
      have h6' : ∀ t, o.dst = some t → (putT tm0 o.dst v').getD t .und = tmN.getD t .und := fun t ht => by
        rw [← h6 t ht, putT_same ht h3.len.symm, putT_same ht h3.len.symm, v1]
      have hst : astep C (i :: κ) o tm h = some (putT tm o.dst v', h) := by
        unfold astep
        rw [← awanted_agree g2]
        rcases v2 with ⟨w1, rfl, _⟩ | ⟨w1, w2⟩
        · rw [w1]
        · rw [w1, ← aop_agree g1, (cls0 hc0 w2).2 h]; rfl
      unfold aseq
      simp only [ho, hst]
      refine conf hd hc ok e hfree hg ht' (TA.more ok hTA ho hlN h6') hcl' hDn' hk hpre (hEsame (by omega)) (fun j hj hb => .inl (hA j hj hb)) ?_
      rw [hh, XS_congr]
      intro a ha
      have hai : a ≠ i := fun e => ha (by rw [e]; exact gn (by omega))
      simp [hai]
    · -- it looks at the heap
      rcases ok.cover k i o hk ho hc1 (fun j q hq hqB => (hE j q hq).1 (hBi _ hqB)) (fun j q hj hq hqB => hDi (hcl _ ((hE j q hq).2 hj) i hqB)) with ⟨c, hcm⟩ | ⟨a, d, sz, n, zero, parts, s1, s2, hoa, hop, hgd, haB, hlast, has⟩
      rotate_left
      · have hDa : D a := hBi a haB
        have hstK : p.st p.phs.length = p.last := by simp [Phases.st]
        have hflK : p.flat = p.pre p.phs.length ++ p.last := by simp [Phases.flat, Phases.pre]
        have hfl : p.flat = (p.pre p.phs.length ++ s1) ++ (i, false) :: s2 := by rw [hflK, hlast]; simp [List.append_assoc]
        have hpk : p.pre p.phs.length = p.pre k ++ (p.phs.drop k).flatMap fun q => q.1 ++ [(q.2, false)] := by
          unfold Phases.pre
          rw [← List.flatMap_append, List.take_append_drop, List.take_length]
        have hn := ok.nodup
        rw [hfl, xs_append, xs_append, List.nodup_append] at hn
        have haK : a ∉ xs (p.pre p.phs.length) := fun hh => (List.nodup_append.1 hn.1).2.2 a hh a has rfl
        have hap : a ∉ xs (p.pre k) := fun hh => haK (by rw [hpk, xs_append, List.mem_append]; exact .inl hh)
        obtain ⟨tmK, HK, hpreK, _⟩ := plan_part e hflK
        obtain ⟨o', tmq, hq1, v, h', h1, h2, h3, h4, h5, h6⟩ := plan_val ok e hfl (by simp)
        rw [ho] at h1; cases h1
        have hheap := plan_heap hd ok e hfree hg (Nat.le_refl _) hpreK _ (s1 := s1) (s2 := (i, false) :: s2) rfl (by rw [hstK, hlast]) h2
        have e1 : hq1 (a :: κ) = bl a := by
          rw [hheap]
          simp only [AH.join, plan_free hd hfree hpreK haK]
          exact XS_at _ _ has
        have e2 : h (a :: κ) = bl a := by
          rw [hh]
          simp only [AH.join, plan_free hd hfree hpre hap]
          exact XS_at _ _ ⟨hDa, hap⟩
        obtain ⟨qa, qa', va, tma, _, hTa, hva, hst⟩ := ((hg a).2 _ hoa).2 rfl
        have hsa := hst tma (fun _ _ => rfl) h
        have hV : tmN.getD d .und = .slc (a :: κ) 0 n sz ∨ tmN.getD d .und = .und := by
          have hx : ∃ l, afill (azeros zero n) (parts.map fun p => (p.1 * sz, sz, ev tma p.2)) = some l ∧ putT tma (some d) (.slc (a :: κ) 0 n sz) = putT tma (some d) va := by
            simp only [astep, awanted, aop] at hsa
            split at hsa
            · rename_i l hl
              split at hsa
              · simp only [Option.map_some, Option.some.injEq, Prod.mk.injEq] at hsa
                exact ⟨l, hl, hsa.1⟩
              · cases hsa
            · cases hsa
          obtain ⟨l, _, hx⟩ := hx
          have hy := hva d rfl
          rw [putT_same (tm' := tma) rfl hTa.len.symm, ← hx] at hy
          rw [← hy]
          simp only [putT, List.getD_eq_getElem?_getD]
          by_cases hdl : d < tma.length
          · left; rw [List.getElem?_set_self hdl]; rfl
          · right; rw [List.getElem?_eq_none (by simp; omega)]; rfl
        have t1 : tm.getD d .und = tmN.getD d .und := hTA.done a _ d hDa hoa rfl
        have t2 : tmq.getD d .und = tmN.getD d .und := h3.done a _ d (by rw [xs_append, List.mem_append]; exact .inr has) hoa rfl
        obtain ⟨v', v1, v2⟩ := step_val h4
        simp only at v1 v2
        have h6' : ∀ t, o.dst = some t → (putT tm0 o.dst v').getD t .und = tmN.getD t .und := fun t ht => by
          rw [← h6 t ht, putT_same ht h3.len.symm, putT_same ht h3.len.symm, v1]
        have hst : astep C (i :: κ) o tm h = some (putT tm o.dst v', h) := by
          unfold astep
          rw [hgd] at v2 ⊢
          simp only [awanted, Option.some.injEq, Bool.true_eq_false, false_and, false_or, true_and] at v2 ⊢
          rw [hop] at v2 ⊢
          simp only [aop, ev, t1, t2] at v2 ⊢
          have hal : aslice h 1 (tmN.getD d .und) = aslice hq1 1 (tmN.getD d .und) := by
            rcases hV with e3 | e3
            · rw [e3]; simp only [aslice, AV.fg, AH.cellsAt, e1, e2]
            · rw [e3]; rfl
          rw [hal]
          split at v2
          · rename_i m l hl
            obtain ⟨y, hy, hy2⟩ := Option.map_eq_some_iff.1 v2
            simp only [Prod.mk.injEq] at hy2
            simp only [hy, Option.map_some, hy2.1]
          · cases v2
        unfold aseq
        simp only [ho, hst]
        refine conf hd hc ok e hfree hg ht' (TA.more ok hTA ho hlN h6') hcl' hDn' hk hpre (hEsame (by omega)) (fun j hj hb => .inl (hA j hj hb)) ?_
        rw [hh, XS_congr]
        intro a ha
        have hai : a ≠ i := fun e => ha (by rw [e]; exact gn (by omega))
        simp [hai]
      obtain ⟨s1, s2, hs⟩ := List.append_of_mem hcm
      obtain ⟨q', hq'⟩ := flat_st p k hk
      have hfl : p.flat = (p.pre k ++ s1) ++ (i, c) :: (s2 ++ q') := by rw [hq', hs]; simp [List.append_assoc]
      have facts : (c = true → i ∈ xs (p.pre k ++ s1)) ∧ (∀ j ∈ B i, j ∈ xs (p.pre k ++ s1)) ∧ (∀ a ∈ xs s1, ∀ o', ops[a]? = some o' → cls o'.op = 2 → a ∈ B i) ∧ (∀ j oj t, j ∈ xs (p.pre k ++ s1) → ops[j]? = some oj → oj.dst = some t → t ∈ opAll o → j ∈ B i) := by
        cases c with
        | true =>
          obtain ⟨o', ho', c1, c2, c3, c4, c5⟩ := ok.chk k s1 i s2 hs hk
          rw [ho] at ho'; cases ho'
          exact ⟨fun _ => c2, c3, c4, fun j oj t hj hoj htt hto => c5 j hj oj hoj t htt hto⟩
        | false =>
          obtain ⟨o', ho', c1, c2, c3⟩ := ok.step k s1 i s2 hs hk
          rw [ho] at ho'; cases ho'
          refine ⟨fun h => by simp at h, c2, c3 hc1, fun j oj t hj hoj htt hto => ?_⟩
          rcases ok.reads i j o oj t ho hoj htt hto with h4 | h4
          · exact h4
          · exact absurd (plan_closed ok hfl j hj i h4) (plan_new ok hfl)
      obtain ⟨f1, f2, f3, f4⟩ := facts
      obtain ⟨o', tmq, hq1, v, h', h1, h2, h3, h4, h5, h6⟩ := plan_val ok e hfl f1
      rw [ho] at h1; cases h1
      have hag : Agree (opAll o) tmq tm := by
        have := TA.agree ok hTA h3 ho hBi f2 hnD f4
        exact fun t ht => (this t ht).symm
      have hheap := plan_heap hd ok e hfree hg hk hpre _ (s1 := s1) (s2 := (i, c) :: s2) rfl hs h2
      obtain ⟨g1, g2⟩ := agree_parts hag
      obtain ⟨v', v1, v2⟩ := step_val h4
      simp only at v1 v2
      have h6' : ∀ t, o.dst = some t → (putT tm0 o.dst v').getD t .und = tmN.getD t .und := fun t ht => by
        rw [← h6 t ht, putT_same ht h3.len.symm, putT_same ht h3.len.symm, v1]
      have hst1 : astep C (i :: κ) o tm hq1 = some (putT tm o.dst v', hq1) := by
        unfold astep
        rw [← awanted_agree g2]
        rcases v2 with ⟨w1, rfl, _⟩ | ⟨w1, w2⟩
        · rw [w1]
        · rw [w1, ← aop_agree g1, w2]
          have := cls1 hc1 w2
          simp only at this
          rw [this]; rfl
      have hsplit : h = hq1.join (XS κ bl fun a => (D a ∧ a ∉ xs (p.pre k)) ∧ ¬ a ∈ xs s1) := by
        rw [hh, hheap]
        refine XS_join_join fun a ha has => ?_
        obtain ⟨oa, hoa⟩ : ∃ oa, ops[a]? = some oa := by
          cases hoa : ops[a]? with
          | none => exact absurd ((hg a).1 hoa) ha
          | some oa => exact ⟨oa, rfl⟩
        have hca : cls oa.op = 2 := by
          by_cases hca : cls oa.op = 2
          · exact hca
          · exact absurd (((hg a).2 oa hoa).1 hca) ha
        refine ⟨hBi a (f3 a has oa hoa hca), fun hap => ?_⟩
        have hn := ok.nodup
        rw [hfl, xs_append, xs_append, List.nodup_append] at hn
        exact (List.nodup_append.1 hn.1).2.2 a hap a has rfl
      have hfr : Free (i :: κ) hq1 (XS κ bl fun a => (D a ∧ a ∉ xs (p.pre k)) ∧ ¬ a ∈ xs s1) := by
        refine ⟨fun x hx => ?_, fun x hx => ?_⟩
        · cases hXx : XS κ bl (fun a => (D a ∧ a ∉ xs (p.pre k)) ∧ ¬ a ∈ xs s1) x with
          | none => rfl
          | some b =>
            obtain ⟨a, rfl, ha⟩ := XS_some (κ := κ) (bl := bl) (x := x) (by rw [hXx]; simp)
            exact absurd (plan_free hd hfree h2 (i := a) (by rw [xs_append, List.mem_append]; exact fun hh => hh.elim ha.1.2 ha.2)) hx
        · cases hXx : XS κ bl (fun a => (D a ∧ a ∉ xs (p.pre k)) ∧ ¬ a ∈ xs s1) x with
          | none => rfl
          | some b =>
            obtain ⟨a, rfl, ha⟩ := XS_some (κ := κ) (bl := bl) (x := x) (by rw [hXx]; simp)
            have := suffix_cons_eq hx (List.suffix_refl (a :: κ))
            subst this
            exact absurd ha.1.1 hDi
      have hst := astep_join hc hfr hst1
      simp only at hst
      rw [← hsplit] at hst
      unfold aseq
      simp only [ho, hst]
      refine conf hd hc ok e hfree hg ht' (TA.more ok hTA ho hlN h6') hcl' hDn' hk hpre (hEsame (by omega)) (fun j hj hb => .inl (hA j hj hb)) ?_
      rw [hh, XS_congr]
      intro a ha
      have hai : a ≠ i := fun e => ha (by rw [e]; exact gn (by omega))
      simp [hai]
    · -- it makes a block
      obtain ⟨q, q', v, tmq, hq, hTq, hv, hall⟩ := ga hc2
      have hst := hall tm (agq hq hTq) h
      have hni : bl i ≠ none → i ∉ xs (p.pre k) := fun hb hip => hDi (hA i hip hb)
      unfold aseq
      simp only [ho, hst]
      refine conf hd hc ok e hfree hg ht' (TA.more ok hTA ho hlN hv) hcl' hDn' hk hpre (hEsame (by omega)) (fun j hj hb => .inl (hA j hj hb)) ?_
      cases hbi : bl i with
      | none =>
        simp only []
        rw [hh, XS_congr]
        intro a ha
        have hai : a ≠ i := fun e => ha (by rw [e]; exact hbi)
        simp [hai]
      | some b =>
        have hnp := hni (by rw [hbi]; simp)
        have hHi := plan_free hd hfree hpre hnp
        have := XS_join_set (bl := bl) (S := fun a => D a ∧ a ∉ xs (p.pre k)) hHi
        rw [hbi] at this
        simp only [] at this ⊢
        rw [hh, this, XS_congr]
        intro a ha
        constructor
        · rintro (⟨h1, h2⟩ | rfl)
          · exact ⟨.inl h1, h2⟩
          · exact ⟨.inr rfl, hnp⟩
        · rintro ⟨h1 | h1, h2⟩
          · exact .inl ⟨h1, h2⟩
          · exact .inr h1
    · -- an effect
      obtain ⟨q, q', hq⟩ := mem_xs (ok.all i hin)
      rcases pos_cases hq with ⟨k', s1, s2, k1, k2, _⟩ | ⟨k', ph, k1, k2, k3, _⟩
      · obtain ⟨o', ho', c1, _⟩ := ok.step k' s1 i s2 k2 k1
        rw [ho] at ho'; cases ho'
        exact absurd hc3 c1
      have hk' : k = k' := by
        have h1 := hE k' ph k1
        rw [← k3] at h1
        have h2 : ¬ k' < k := fun hh => hDi (h1.2 hh)
        by_cases h3 : k = k'
        · exact h3
        · exfalso
          have hlt : k < p.phs.length := by have := (List.getElem?_eq_some_iff.1 k1).1; omega
          have hq2 := List.getElem?_eq_getElem hlt
          obtain ⟨_, _, hch, _⟩ := ok.eff k' ph k1
          have := hch k p.phs[k] (by omega) hq2
          rw [← k3] at this
          have := (hE k _ hq2).1 (hBi _ this)
          omega
      subst hk'
      have hkl : k < p.phs.length := (List.getElem?_eq_some_iff.1 k1).1
      have hst' : p.st k = ph.1 := by simp [Phases.st, k1]
      obtain ⟨_, f2, _, f3⟩ := ok.eff k ph k1
      rw [← k3] at f2 f3
      obtain ⟨o', tmq, hq1, v, h', h1, h2, h3, h4, h5, h6⟩ := plan_val ok e hq (by simp)
      rw [ho] at h1; cases h1
      rw [k2] at h2
      have hheap := plan_heap hd ok e hfree hg hk hpre _ (s1 := ph.1) (s2 := []) rfl (by rw [hst']; simp) h2
      have hpre' : aplan C κ ops (p.pre (k + 1)) tm0 h0 = some (putT tmq o.dst v, h') := by
        rw [pre_succ k1, ← k3, ← k2]; exact h5 rfl
      obtain ⟨g1, g2⟩ := agree_parts (agq hq h3)
      obtain ⟨v', v1, v2⟩ := step_val h4
      simp only at v1 v2
      have h6' : ∀ t, o.dst = some t → (putT tm0 o.dst v').getD t .und = tmN.getD t .und := fun t ht => by
        rw [← h6 t ht, putT_same ht h3.len.symm, putT_same ht h3.len.symm, v1]
      have hst1 : astep C (i :: κ) o tm hq1 = some (putT tm o.dst v', h') := by
        unfold astep
        rw [← awanted_agree g2]
        rcases v2 with ⟨w1, rfl, rfl⟩ | ⟨w1, w2⟩
        · rw [w1]
        · rw [w1, ← aop_agree g1, w2]; rfl
      have hsplit : h = hq1.join (XS κ bl fun a => (D a ∧ a ∉ xs (p.pre k)) ∧ ¬ a ∈ xs ph.1) := by
        rw [hh, hheap]
        refine XS_join_join fun a ha has => ?_
        obtain ⟨oa, hoa⟩ : ∃ oa, ops[a]? = some oa := by
          cases hoa : ops[a]? with
          | none => exact absurd ((hg a).1 hoa) ha
          | some oa => exact ⟨oa, rfl⟩
        have hca : cls oa.op = 2 := by
          by_cases hca : cls oa.op = 2
          · exact hca
          · exact absurd (((hg a).2 oa hoa).1 hca) ha
        refine ⟨hBi a (f3 a has oa hoa hca), fun hap => ?_⟩
        have hn := ok.nodup
        rw [hq, k2, xs_append, xs_append, List.nodup_append] at hn
        exact (List.nodup_append.1 hn.1).2.2 a hap a has rfl
      have hfr : Free (i :: κ) hq1 (XS κ bl fun a => (D a ∧ a ∉ xs (p.pre k)) ∧ ¬ a ∈ xs ph.1) := by
        refine ⟨fun x hx => ?_, fun x hx => ?_⟩
        · cases hXx : XS κ bl (fun a => (D a ∧ a ∉ xs (p.pre k)) ∧ ¬ a ∈ xs ph.1) x with
          | none => rfl
          | some b =>
            obtain ⟨a, rfl, ha⟩ := XS_some (κ := κ) (bl := bl) (x := x) (by rw [hXx]; simp)
            exact absurd (plan_free hd hfree h2 (i := a) (by rw [xs_append, List.mem_append]; exact fun hh => hh.elim ha.1.2 ha.2)) hx
        · cases hXx : XS κ bl (fun a => (D a ∧ a ∉ xs (p.pre k)) ∧ ¬ a ∈ xs ph.1) x with
          | none => rfl
          | some b =>
            obtain ⟨a, rfl, ha⟩ := XS_some (κ := κ) (bl := bl) (x := x) (by rw [hXx]; simp)
            have := suffix_cons_eq hx (List.suffix_refl (a :: κ))
            subst this
            exact absurd ha.1.1 hDi
      have hst := astep_join hc hfr hst1
      simp only at hst
      rw [← hsplit] at hst
      have hxs : xs (p.pre (k + 1)) = xs (p.pre k) ++ xs ph.1 ++ [i] := by
        rw [pre_succ k1, xs_append, xs_append, xs_cons_x, ← k3]; rfl
      unfold aseq
      simp only [ho, hst]
      refine conf hd hc ok e hfree hg ht' (TA.more ok hTA ho hlN h6') hcl' hDn' (k := k + 1) hkl hpre' (fun j q2 hq2 => ?_) (fun j hj hb => ?_) ?_
      · have h7 := hE j q2 hq2
        constructor
        · rintro (h8 | h8)
          · have := h7.1 h8; omega
          · by_cases h9 : j ≤ k
            · omega
            · exfalso
              obtain ⟨_, _, hch, _⟩ := ok.eff j q2 hq2
              have := hch k ph (by omega) k1
              rw [h8, ← k3] at this
              exact hDi (hBi i this)
        · intro h8
          by_cases h9 : j < k
          · exact .inl (h7.2 h9)
          · have : j = k := by omega
            subst this
            rw [k1] at hq2; cases hq2
            exact .inr k3.symm
      · rw [hxs, List.mem_append, List.mem_append] at hj
        rcases hj with (hj | hj) | hj
        · exact .inl (hA j hj hb)
        · obtain ⟨oa, hoa⟩ : ∃ oa, ops[j]? = some oa := by
            cases hoa : ops[j]? with
            | none => exact absurd ((hg j).1 hoa) hb
            | some oa => exact ⟨oa, rfl⟩
          have hca : cls oa.op = 2 := by
            by_cases hca : cls oa.op = 2
            · exact hca
            · exact absurd (((hg j).2 oa hoa).1 hca) hb
          exact .inl (hBi j (f3 j hj oa hoa hca))
        · exact .inr (by simpa using hj)
      · rw [XS_congr]
        intro a ha
        have hai : a ≠ i := fun e => ha (by rw [e]; exact gn (by omega))
        rw [hxs]
        simp only [List.mem_append, List.mem_singleton]
        constructor
        · rintro ⟨⟨h7, h8⟩, h9⟩
          exact ⟨.inl h7, fun hh => hh.elim (fun hh => hh.elim h8 h9) hai⟩
        · rintro ⟨h7 | h7, h8⟩
          · exact ⟨⟨h7, fun hh => h8 (.inl (.inl hh))⟩, fun hh => h8 (.inl (.inr hh))⟩
          · exact absurd h7 hai
end
end Go.Proofs.YtgekngfnhhdamaaM
