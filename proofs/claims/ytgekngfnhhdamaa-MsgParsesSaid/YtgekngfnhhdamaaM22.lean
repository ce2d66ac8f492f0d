/- A test whether a plan is one; no conditions. -/
import Derived.Test.YtgekngfnhhdamaaM21
set_option linter.unusedVariables false
set_option linter.unusedSimpArgs false
namespace Go.Proofs.YtgekngfnhhdamaaM
open Go

/-! ### sets of numbers, as numbers -/
def sub (a b : Nat) : Bool := a &&& b == a
theorem sub_spec {a b : Nat} (h : sub a b = true) {j : Nat} (hj : a.testBit j = true) : b.testBit j = true := by
  have h1 : a &&& b = a := by simpa [sub] using h
  rw [← h1, Nat.testBit_and] at hj
  simp at hj; exact hj.2
def one (i : Nat) : Nat := 2 ^ i
theorem one_spec {i j : Nat} : (one i).testBit j = true ↔ i = j := by
  unfold one
  rw [Nat.testBit_two_pow]; simp
def setOf : List Nat → Nat
  | [] => 0
  | i :: l => one i ||| setOf l
theorem setOf_spec : ∀ {l : List Nat} {j : Nat}, (setOf l).testBit j = true ↔ j ∈ l
  | [], j => by simp [setOf]
  | i :: l, j => by
    rw [setOf, Nat.testBit_or, Bool.or_eq_true, one_spec, setOf_spec, List.mem_cons]
    exact ⟨fun h => h.imp Eq.symm id, fun h => h.imp Eq.symm id⟩
/-- The members below n. -/
def bits (n m : Nat) : List Nat := (List.range n).filter (m.testBit ·)
theorem bits_spec {n m j : Nat} : j ∈ bits n m ↔ j < n ∧ m.testBit j = true := by simp [bits]
def nodupB : List Nat → Bool
  | [] => true
  | i :: l => !l.contains i && nodupB l
theorem nodupB_spec : ∀ {l : List Nat}, nodupB l = true → l.Nodup
  | [], _ => List.nodup_nil
  | i :: l, h => by
    simp only [nodupB, Bool.and_eq_true, Bool.not_eq_true', List.contains_eq_mem, decide_eq_false_iff_not] at h
    exact List.nodup_cons.2 ⟨h.1, nodupB_spec h.2⟩

def clsAt (ops : List IOper) (i : Nat) : Nat := match ops[i]? with | some o => cls o.op | none => 9
def chkDst (ops : List IOper) : Bool := nodupB (ops.filterMap (·.dst))
def chkReads (ops : List IOper) (M : List Nat) : Bool :=
  ops.zipIdx.all fun q => (opAll q.1).all fun t => ops.zipIdx.all fun r => (r.1.dst != some t) || (M.getD q.2 0).testBit r.2 || (M.getD r.2 0).testBit q.2
def chkStep (ops : List IOper) (M : List Nat) (done ys : Nat) (i : Nat) (c : Bool) : Bool :=
  match ops[i]? with
  | none => false
  | some o =>
    sub (M.getD i 0) done &&
    (if c then cls o.op == 1 && done.testBit i && sub ys (M.getD i 0) && (ops.zipIdx.all fun r => !done.testBit r.2 || (M.getD i 0).testBit r.2 || (match r.1.dst with | some t => !(opAll o).contains t | none => true))
     else cls o.op != 3 && (cls o.op != 1 || sub ys (M.getD i 0)))
def chkSt (ops : List IOper) (M : List Nat) : Steps' → Nat → Nat → Bool
  | [], _, _ => true
  | (i, c) :: l, done, ys => chkStep ops M done ys i c && chkSt ops M l (if c then done else done ||| one i) (if !c && clsAt ops i == 2 then ys ||| one i else ys)
def chkEff (ops : List IOper) (M : List Nat) (done effs ys e : Nat) : Bool :=
  clsAt ops e == 3 && sub (M.getD e 0) done && sub effs (M.getD e 0) && sub ys (M.getD e 0)
/-- What comes ahead of i. -/
def upto : Steps' → Nat → Steps'
  | [], _ => []
  | (j, c) :: l, i => if j == i && !c then [] else (j, c) :: upto l i
theorem upto_spec : ∀ {l : Steps'} {i : Nat}, (i, false) ∈ l → ∃ s2, l = upto l i ++ (i, false) :: s2
  | [], i, h => by simp at h
  | (j, c) :: l, i, h => by
    unfold upto
    by_cases e : (j == i && !c) = true
    · rw [if_pos e]
      simp only [Bool.and_eq_true, beq_iff_eq, Bool.not_eq_true'] at e
      obtain ⟨rfl, rfl⟩ := e
      exact ⟨l, rfl⟩
    · rw [if_neg e]
      have : (i, false) ∈ l := by
        rcases List.mem_cons.1 h with h | h
        · cases h; simp at e
        · exact h
      obtain ⟨s2, h2⟩ := upto_spec this
      exact ⟨s2, by rw [List.cons_append, ← h2]⟩
def isB (d : Nat) : Option IOper → Bool
  | some ⟨some d', .buildS _ _ _ _, none⟩ => d' == d
  | _ => false
theorem isB_spec {d : Nat} {o : Option IOper} (h : isB d o = true) : ∃ sz n zero parts, o = some ⟨some d, .buildS sz n zero parts, none⟩ := by
  unfold isB at h
  split at h
  · rw [beq_iff_eq] at h; subst h; exact ⟨_, _, _, _, rfl⟩
  · cases h
def privB (ops : List IOper) (M : List Nat) (last : Steps') (i : Nat) (o : IOper) : Bool :=
  match o.op, o.guard with
  | .b2s (.t d), none => last.contains (i, false) && (upto last i).any fun x => !x.2 && isB d ops[x.1]? && (M.getD i 0).testBit x.1
  | _, _ => false
/-- Does each look that may come now come in this phase? -/
def chkCov (ops : List IOper) (M : List Nat) (last : Steps') (allE effs : Nat) (effL : List Nat) (s : Steps') : Bool :=
  ops.zipIdx.all fun r => cls r.1.op != 1 || !sub (M.getD r.2 0 &&& allE) effs || (effL.any fun e => (M.getD e 0).testBit r.2) || (s.any fun x => x.1 == r.2) || privB ops M last r.2 r.1
def ysOf (ops : List IOper) (s : Steps') : Nat := setOf ((xs s).filter fun i => clsAt ops i == 2)
def chkPhs (ops : List IOper) (M : List Nat) (allE : Nat) (last : Steps') : List (Steps' × Nat) → Nat → List Nat → Bool
  | [], done, effL => chkSt ops M last done 0 && chkCov ops M last allE (setOf effL) effL last
  | (s, e) :: r, done, effL => chkSt ops M s done 0 && chkCov ops M last allE (setOf effL) effL s && chkEff ops M (done ||| setOf (xs s)) (setOf effL) (ysOf ops s) e &&
      chkPhs ops M allE last r (done ||| setOf (xs s) ||| one e) (effL ++ [e])
def chkPlan (ops : List IOper) (M : List Nat) (p : Phases) : Bool :=
  chkDst ops && chkReads ops M && nodupB (xs p.flat) && ((List.range ops.length).all fun i => (setOf (xs p.flat)).testBit i) && ((xs p.flat).all fun i => decide (i < ops.length)) &&
  chkPhs ops M (setOf (p.phs.map (·.2))) p.last p.phs 0 []
section
variable {ops : List IOper} {M : List Nat}
abbrev Bof (n : Nat) (M : List Nat) : Nat → List Nat := fun i => bits n (M.getD i 0)
theorem mem_Bof {n i j : Nat} : j ∈ Bof n M i ↔ j < n ∧ (M.getD i 0).testBit j = true := bits_spec
theorem dst_spec : ∀ {ops : List IOper}, nodupB (ops.filterMap (·.dst)) = true → ∀ {i j : Nat} {oi oj : IOper} {t : Nat}, ops[i]? = some oi → ops[j]? = some oj → oi.dst = some t → oj.dst = some t → i = j
  | [], _, i, j, oi, oj, t, h1, _, _, _ => by simp at h1
  | o :: l, h, i, j, oi, oj, t, h1, h2, h3, h4 => by
    cases hd : o.dst with
    | none =>
      rw [List.filterMap_cons_none hd] at h
      cases i with
      | zero => simp at h1; subst h1; rw [hd] at h3; cases h3
      | succ i =>
        cases j with
        | zero => simp at h2; subst h2; rw [hd] at h4; cases h4
        | succ j => exact congrArg _ (dst_spec h (by simpa using h1) (by simpa using h2) h3 h4)
    | some d =>
      rw [List.filterMap_cons_some hd] at h
      simp only [nodupB, Bool.and_eq_true, Bool.not_eq_true', List.contains_eq_mem, decide_eq_false_iff_not] at h
      have hm : ∀ {k : Nat} {ok : IOper}, l[k]? = some ok → ok.dst = some d → False := fun hk hkd => h.1 (List.mem_filterMap.2 ⟨_, List.mem_of_getElem? hk, hkd⟩)
      cases i with
      | zero =>
        simp at h1; subst h1
        rw [hd] at h3; cases h3
        cases j with
        | zero => rfl
        | succ j => exact (hm (by simpa using h2) h4).elim
      | succ i =>
        cases j with
        | zero =>
          simp at h2; subst h2
          rw [hd] at h4; cases h4
          exact (hm (by simpa using h1) h3).elim
        | succ j => exact congrArg _ (dst_spec h.2 (by simpa using h1) (by simpa using h2) h3 h4)
theorem zip_mem {i : Nat} {o : IOper} (h : ops[i]? = some o) : (o, i) ∈ ops.zipIdx := List.mk_mem_zipIdx_iff_getElem?.2 h
theorem clsAt_eq {i : Nat} {o : IOper} (h : ops[i]? = some o) : clsAt ops i = cls o.op := by simp [clsAt, h]
theorem st_spec : ∀ {l : Steps'} {done ys : Nat}, chkSt ops M l done ys = true → ∀ {s1 s2 : Steps'} {i : Nat} {c : Bool}, l = s1 ++ (i, c) :: s2 →
    ∃ done' ys', chkStep ops M done' ys' i c = true ∧ (∀ j, done'.testBit j = true ↔ done.testBit j = true ∨ j ∈ xs s1) ∧ (∀ a, ys.testBit a = true ∨ (a ∈ xs s1 ∧ clsAt ops a = 2) → ys'.testBit a = true)
  | [], done, ys, h, s1, s2, i, c, e => by simp at e
  | (j, d) :: l, done, ys, h, s1, s2, i, c, e => by
    simp only [chkSt, Bool.and_eq_true] at h
    cases s1 with
    | nil =>
      simp only [List.nil_append] at e
      injection e with e1 e2
      cases e1
      exact ⟨done, ys, h.1, fun j => by simp [xs], fun a ha => ha.elim id fun ha => by simp [xs] at ha⟩
    | cons x s1 =>
      simp only [List.cons_append] at e
      injection e with e1 e2
      subst e1
      obtain ⟨done', ys', k1, k2, k3⟩ := st_spec h.2 e2
      refine ⟨done', ys', k1, fun q => ?_, fun a ha => k3 a ?_⟩
      · rw [k2]
        cases d with
        | true => simp only [if_true, xs_cons_c]
        | false =>
          simp only [Bool.false_eq_true, if_false, xs_cons_x, Nat.testBit_or, Bool.or_eq_true, one_spec, List.mem_cons]
          constructor
          · rintro ((h1 | h1) | h1)
            · exact .inl h1
            · exact .inr (.inl h1.symm)
            · exact .inr (.inr h1)
          · rintro (h1 | h1 | h1)
            · exact .inl (.inl h1)
            · exact .inl (.inr h1.symm)
            · exact .inr h1
      · cases d with
        | true => rw [xs_cons_c] at ha; exact ha
        | false =>
          rw [xs_cons_x] at ha
          rcases ha with ha | ⟨ha, hc⟩
          · refine .inl ?_
            split
            · rw [Nat.testBit_or, ha]; rfl
            · exact ha
          · rcases List.mem_cons.1 ha with rfl | ha
            · refine .inl ?_
              rw [if_pos (by simp [hc]), Nat.testBit_or, one_spec.2 rfl]; simp
            · exact .inr ⟨ha, hc⟩
theorem phs_spec {allE : Nat} {last : Steps'} : ∀ {phs : List (Steps' × Nat)} {done : Nat} {effL : List Nat}, chkPhs ops M allE last phs done effL = true → ∀ k, k ≤ phs.length →
    ∃ done', (∀ j, done'.testBit j = true ↔ done.testBit j = true ∨ j ∈ xs ((phs.take k).flatMap fun q => q.1 ++ [(q.2, false)])) ∧
      (match phs[k]? with
       | some q => chkSt ops M q.1 done' 0 = true ∧ chkCov ops M last allE (setOf (effL ++ (phs.take k).map (·.2))) (effL ++ (phs.take k).map (·.2)) q.1 = true ∧ chkEff ops M (done' ||| setOf (xs q.1)) (setOf (effL ++ (phs.take k).map (·.2))) (ysOf ops q.1) q.2 = true
       | none => chkSt ops M last done' 0 = true ∧ chkCov ops M last allE (setOf (effL ++ (phs.take k).map (·.2))) (effL ++ (phs.take k).map (·.2)) last = true)
  | [], done, effL, h, k, hk => by
    have : k = 0 := by simpa using hk
    subst this
    simp only [chkPhs, Bool.and_eq_true] at h
    exact ⟨done, fun j => by simp [xs], by simpa using h⟩
  | (s, e) :: r, done, effL, h, 0, hk => by
    simp only [chkPhs, Bool.and_eq_true] at h
    exact ⟨done, fun j => by simp [xs], by simpa [and_assoc] using ⟨h.1.1.1, h.1.1.2, h.1.2⟩⟩
  | (s, e) :: r, done, effL, h, k + 1, hk => by
    simp only [chkPhs, Bool.and_eq_true] at h
    obtain ⟨done', k1, k2⟩ := phs_spec h.2 k (by simpa using hk)
    refine ⟨done', fun j => ?_, by simpa [List.append_assoc] using k2⟩
    rw [k1]
    simp only [List.take_succ_cons, List.flatMap_cons, xs_append, xs_cons_x, Nat.testBit_or, Bool.or_eq_true, one_spec, setOf_spec, List.mem_append, List.mem_cons]
    have : ∀ q, q ∈ xs [] ↔ False := fun q => by simp [xs]
    simp only [this, or_false]
    constructor
    · rintro (((h1 | h1) | h1) | h1)
      · exact .inl h1
      · exact .inr (.inl (.inl h1))
      · exact .inr (.inl (.inr h1.symm))
      · exact .inr (.inr h1)
    · rintro (h1 | (h1 | h1) | h1)
      · exact .inl (.inl (.inl h1))
      · exact .inl (.inl (.inr h1))
      · exact .inl (.inr h1.symm)
      · exact .inr h1
theorem chkPlan_ok {p : Phases} (h : chkPlan ops M p = true) : PlanOK ops (Bof ops.length M) p := by
  simp only [chkPlan, Bool.and_eq_true] at h
  obtain ⟨⟨⟨⟨⟨h1, h2⟩, h3⟩, h4⟩, h5⟩, h6⟩ := h
  have ph := fun k hk => phs_spec h6 k hk
  have hlt : ∀ i ∈ xs p.flat, i < ops.length := fun i hi => by simpa using List.all_eq_true.1 h5 i hi
  have stk : ∀ k, k ≤ p.phs.length → ∃ done', (∀ j, done'.testBit j = true ↔ j ∈ xs (p.pre k)) ∧ chkSt ops M (p.st k) done' 0 = true ∧ chkCov ops M p.last (setOf (p.phs.map (·.2))) (setOf ((p.phs.take k).map (·.2))) ((p.phs.take k).map (·.2)) (p.st k) = true := by
    intro k hk
    obtain ⟨done', k1, k2⟩ := ph k hk
    refine ⟨done', fun j => by rw [k1]; simp [Phases.pre], ?_⟩
    unfold Phases.st
    split at k2
    · rename_i q hq; rw [hq]; simp only [List.nil_append] at k2; exact ⟨k2.1, k2.2.1⟩
    · rename_i hq; rw [hq]; simp only [List.nil_append] at k2; exact k2
  refine ⟨fun i j oi oj t a1 a2 a3 a4 => dst_spec h1 a1 a2 a3 a4, fun i j oi oj t a1 a2 a3 a4 => ?_, nodupB_spec h3, fun i hi => ?_, fun k q hq => ?_, fun k s1 i s2 hs hk => ?_, fun k s1 i s2 hs hk => ?_, fun k i o hk ho hc c1 c2 => ?_⟩
  · have := List.all_eq_true.1 h2 (oi, i) (zip_mem a1)
    have := List.all_eq_true.1 this t a4
    have := List.all_eq_true.1 this (oj, j) (zip_mem a2)
    simp only [a3, bne_self_eq_false, Bool.false_or, Bool.or_eq_true] at this
    rcases this with h | h
    · exact .inl (mem_Bof.2 ⟨(List.getElem?_eq_some_iff.1 a2).1, h⟩)
    · exact .inr (mem_Bof.2 ⟨(List.getElem?_eq_some_iff.1 a1).1, h⟩)
  · exact setOf_spec.1 (List.all_eq_true.1 h4 i (by simpa using hi))
  · have hk := (List.getElem?_eq_some_iff.1 hq).1
    obtain ⟨done', k1, k2⟩ := ph k (Nat.le_of_lt hk)
    rw [hq] at k2
    simp only [List.nil_append] at k2
    obtain ⟨_, _, k3⟩ := k2
    simp only [chkEff, Bool.and_eq_true, beq_iff_eq] at k3
    obtain ⟨⟨⟨k3, k4⟩, k5⟩, k6⟩ := k3
    have hsome : ∃ o, ops[q.2]? = some o := by
      cases ho : ops[q.2]? with
      | none => simp [clsAt, ho] at k3
      | some o => exact ⟨o, rfl⟩
    obtain ⟨o, ho⟩ := hsome
    refine ⟨⟨o, ho, by rw [← clsAt_eq ho]; exact k3⟩, fun j hj => ?_, fun j q' hj hq' => ?_, fun a ha oa hoa hca => ?_⟩
    · have := sub_spec k4 (mem_Bof.1 hj).2
      rw [Nat.testBit_or, Bool.or_eq_true, setOf_spec, k1] at this
      rw [xs_append, List.mem_append]
      exact this.imp (fun h => by simpa [Phases.pre] using h) id
    · have hj' := (List.getElem?_eq_some_iff.1 hq').1
      obtain ⟨o', ho', _⟩ : ∃ o', ops[q'.2]? = some o' ∧ True := by
        obtain ⟨_, _, k2'⟩ := ph j (Nat.le_of_lt hj')
        rw [hq'] at k2'
        obtain ⟨_, _, k3'⟩ := k2'
        simp only [chkEff, Bool.and_eq_true, beq_iff_eq] at k3'
        cases ho : ops[q'.2]? with
        | none => simp [clsAt, ho] at k3'
        | some o => exact ⟨o, rfl, trivial⟩
      refine mem_Bof.2 ⟨(List.getElem?_eq_some_iff.1 ho').1, sub_spec k5 (setOf_spec.2 ?_)⟩
      refine List.mem_map.2 ⟨q', ?_, rfl⟩
      exact List.mem_of_getElem? (i := j) (by rw [List.getElem?_take, if_pos hj]; exact hq')
    · refine mem_Bof.2 ⟨(List.getElem?_eq_some_iff.1 hoa).1, sub_spec k6 (setOf_spec.2 (List.mem_filter.2 ⟨ha, ?_⟩))⟩
      simp [clsAt_eq hoa, hca]
  · obtain ⟨done', k1, k2, _⟩ := stk k hk
    obtain ⟨d', y', e1, e2, e3⟩ := st_spec k2 hs
    unfold chkStep at e1
    split at e1
    · cases e1
    rename_i o ho
    simp only [Bool.false_eq_true, if_false, Bool.and_eq_true, bne_iff_ne, ne_eq, Bool.or_eq_true] at e1
    obtain ⟨f1, f2, f3⟩ := e1
    refine ⟨o, ho, f2, fun j hj => ?_, fun hc a ha oa hoa hca => ?_⟩
    · have := (e2 j).1 (sub_spec f1 (mem_Bof.1 hj).2)
      rw [k1] at this
      rw [xs_append, List.mem_append]; exact this
    · have f3 := f3.resolve_left (by simp [hc])
      exact mem_Bof.2 ⟨(List.getElem?_eq_some_iff.1 hoa).1, sub_spec f3 (e3 a (.inr ⟨ha, by rw [clsAt_eq hoa]; exact hca⟩))⟩
  · obtain ⟨done', k1, k2, _⟩ := stk k hk
    obtain ⟨d', y', e1, e2, e3⟩ := st_spec k2 hs
    unfold chkStep at e1
    split at e1
    · cases e1
    rename_i o ho
    simp only [if_true, Bool.and_eq_true, beq_iff_eq] at e1
    obtain ⟨f1, ⟨⟨f2, f3⟩, f4⟩, f5⟩ := e1
    have hmem : ∀ j, d'.testBit j = true ↔ j ∈ xs (p.pre k ++ s1) := fun j => by rw [e2, k1, xs_append, List.mem_append]
    refine ⟨o, ho, f2, (hmem i).1 f3, fun j hj => (hmem j).1 (sub_spec f1 (mem_Bof.1 hj).2), fun a ha oa hoa hca => mem_Bof.2 ⟨(List.getElem?_eq_some_iff.1 hoa).1, sub_spec f4 (e3 a (.inr ⟨ha, by rw [clsAt_eq hoa]; exact hca⟩))⟩, fun j hj oj hoj t ht hto => ?_⟩
    have := List.all_eq_true.1 f5 (oj, j) (zip_mem hoj)
    simp only [(hmem j).2 hj, Bool.not_true, Bool.false_or, ht, Bool.or_eq_true, Bool.not_eq_true', List.contains_eq_mem, decide_eq_false_iff_not] at this
    exact mem_Bof.2 ⟨(List.getElem?_eq_some_iff.1 hoj).1, this.resolve_right (fun hh => hh hto)⟩
  · obtain ⟨done', _, _, k3⟩ := stk k hk
    have := List.all_eq_true.1 k3 (o, i) (zip_mem ho)
    simp only [hc, bne_self_eq_false, Bool.false_or, Bool.or_eq_true, Bool.not_eq_true', List.any_eq_true, beq_iff_eq] at this
    rcases this with ((h7 | ⟨e, he, h7⟩) | ⟨x, hx, h7⟩) | h7
    · exfalso
      have hsub : sub (M.getD i 0 &&& setOf (p.phs.map (·.2))) (setOf ((p.phs.take k).map (·.2))) = true := by
        unfold sub
        rw [beq_iff_eq]
        apply Nat.eq_of_testBit_eq
        intro j
        rw [Nat.testBit_and]
        cases hb : (M.getD i 0 &&& setOf (p.phs.map (·.2))).testBit j with
        | false => rfl
        | true =>
          rw [Nat.testBit_and, Bool.and_eq_true, setOf_spec] at hb
          obtain ⟨hb1, hb2⟩ := hb
          obtain ⟨q, hq, rfl⟩ := List.mem_map.1 hb2
          obtain ⟨n, hn⟩ := List.getElem?_of_mem hq
          have hql : q.2 < ops.length := by
            obtain ⟨_, _, k2'⟩ := ph n (Nat.le_of_lt (List.getElem?_eq_some_iff.1 hn).1)
            rw [hn] at k2'
            obtain ⟨_, _, k3'⟩ := k2'
            simp only [chkEff, Bool.and_eq_true, beq_iff_eq] at k3'
            by_cases hl : q.2 < ops.length
            · exact hl
            · simp [clsAt, List.getElem?_eq_none (Nat.le_of_not_lt hl)] at k3'
          have := c1 n q hn (mem_Bof.2 ⟨hql, hb1⟩)
          rw [Bool.true_and, setOf_spec]
          refine List.mem_map.2 ⟨q, List.mem_of_getElem? (i := n) (by rw [List.getElem?_take, if_pos this]; exact hn), rfl⟩
      rw [hsub] at h7; cases h7
    · exfalso
      obtain ⟨q, hq, rfl⟩ := List.mem_map.1 he
      obtain ⟨n, hn⟩ := List.getElem?_of_mem hq
      rw [List.getElem?_take] at hn
      split at hn
      · rename_i hnk
        exact c2 n q hnk hn (mem_Bof.2 ⟨(List.getElem?_eq_some_iff.1 ho).1, h7⟩)
      · cases hn
    · obtain ⟨a, b⟩ := x
      simp only at h7
      subst h7
      exact .inl ⟨b, hx⟩
    · right
      unfold privB at h7
      split at h7
      · rename_i d h8 h9
        simp only [Bool.and_eq_true, List.contains_iff_mem, List.any_eq_true, Bool.not_eq_true'] at h7
        obtain ⟨h10, x, hx, ⟨h11, h12⟩, h13⟩ := h7
        obtain ⟨a, b⟩ := x
        simp only at h11 h12 h13
        subst h11
        obtain ⟨sz, n, zero, parts, h14⟩ := isB_spec h12
        obtain ⟨s2, h15⟩ := upto_spec h10
        refine ⟨a, d, sz, n, zero, parts, _, s2, h14, h8, h9, mem_Bof.2 ⟨(List.getElem?_eq_some_iff.1 h14).1, h13⟩, h15, ?_⟩
        exact List.mem_filterMap.2 ⟨(a, false), hx, rfl⟩
      · cases h7
end
end Go.Proofs.YtgekngfnhhdamaaM
