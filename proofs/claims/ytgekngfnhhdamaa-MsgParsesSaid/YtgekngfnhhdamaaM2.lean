/- The machine: more rounds give the same; which names are taken; what stands beside is left alone; no conditions. -/
import Derived.Test.YtgekngfnhhdamaaM1
set_option linter.unusedVariables false
set_option linter.unusedSimpArgs false
namespace Go.Proofs.YtgekngfnhhdamaaM
open Go

/-! ### more rounds -/
def CF.le (C C' : CF) : Prop := ∀ f id args h r, C f id args h = some r → C' f id args h = some r
theorem CF.le_refl (C : CF) : CF.le C C := fun _ _ _ _ _ h => h
theorem aop_mono {C C' : CF} (hc : CF.le C C') {id : Id} {op : IOp} {tm : List AV} {h : AH} {r : AV × AH} (e : aop C id op tm h = some r) : aop C' id op tm h = some r := by
  cases op <;> simp only [aop] at e ⊢ <;> try exact e
  · exact hc _ _ _ _ _ e
  · split at e
    · exact hc _ _ _ _ _ e
    · cases e
theorem astep_mono {C C' : CF} (hc : CF.le C C') {id : Id} {o : IOper} {tm : List AV} {h : AH} {r : List AV × AH} (e : astep C id o tm h = some r) : astep C' id o tm h = some r := by
  unfold astep at e ⊢
  split at e
  · obtain ⟨x, hx, rfl⟩ := Option.map_eq_some_iff.1 e
    rw [aop_mono hc hx]; rfl
  · exact e
  · cases e
theorem aplan_mono {C C' : CF} (hc : CF.le C C') {κ : Id} {ops : List IOper} : ∀ {plan : List (Nat × Bool)} {tm : List AV} {h : AH} {r : List AV × AH}, aplan C κ ops plan tm h = some r → aplan C' κ ops plan tm h = some r
  | [], _, _, _, e => e
  | (i, chk) :: rest, tm, h, r, e => by
    unfold aplan at e ⊢
    split at e
    · cases e
    · rename_i o ho
      split at e
      · cases e
      · rename_i tm' h' hs
        rw [astep_mono hc hs]
        simp only []
        split at e
        · rename_i hk
          rw [if_pos hk]
          split at e
          · rename_i ht; rw [if_pos ht]; exact aplan_mono hc e
          · cases e
        · rename_i hk
          rw [if_neg hk]; exact aplan_mono hc e
/-! ### how a code comes to its end -/
section
variable {C : CF} {π : Id} {n : Nat} {k : Nat} {tm : List AV} {h : AH} {r : Ex × Nat × List AV × AH}
theorem reg_inv {plan : List (Nat × Bool)} {ops : List IOper} : aexec C π (n + 1) (.reg plan ops) k tm h = some r ↔ ∃ x, aplan C (k :: π) ops plan tm h = some x ∧ r = (.norm, k + 1, x.1, x.2) := by
  simp only [aexec, Option.map_eq_some_iff]
  exact ⟨fun ⟨x, hx, e⟩ => ⟨x, hx, e.symm⟩, fun ⟨x, hx, e⟩ => ⟨x, hx, e.symm⟩⟩
theorem seq_inv {a b : ICode} : aexec C π (n + 1) (.seq a b) k tm h = some r ↔
    (∃ k' tm' h', aexec C π n a k tm h = some (.norm, k', tm', h') ∧ aexec C π n b k' tm' h' = some r) ∨ (aexec C π n a k tm h = some r ∧ r.1 ≠ .norm) := by
  simp only [aexec]
  obtain ⟨e, k', tm', h'⟩ := r
  cases hx : aexec C π n a k tm h with
  | none => simp only []; simp
  | some y =>
    obtain ⟨e1, k1, tm1, h1⟩ := y
    cases e1 with
    | norm =>
      constructor
      · intro hh; exact .inl ⟨_, _, _, rfl, hh⟩
      · rintro (⟨_, _, _, heq, hh⟩ | ⟨heq, hh⟩)
        · cases heq; exact hh
        · cases heq; exact absurd rfl hh
    | _ =>
      constructor
      · intro heq; exact .inr ⟨heq, by cases heq; simp⟩
      · rintro (⟨_, _, _, heq, hh⟩ | ⟨heq, hh⟩)
        · cases heq
        · exact heq
theorem cond_inv {x : Opd} {a b : ICode} : aexec C π (n + 1) (.cond x a b) k tm h = some r ↔
    (ev tm x = .bool true ∧ aexec C π n a k tm h = some r) ∨ (ev tm x = .bool false ∧ aexec C π n b k tm h = some r) := by
  simp only [aexec]
  split <;> simp_all
theorem block_inv {i : Nat} {a : ICode} : aexec C π (n + 1) (.block i a) k tm h = some r ↔
    (∃ j k' tm' h', aexec C π n a k tm h = some (.exit j, k', tm', h') ∧ r = (if j = i then .norm else .exit j, k', tm', h')) ∨ (aexec C π n a k tm h = some r ∧ ∀ j, r.1 ≠ .exit j) := by
  simp only [aexec]
  obtain ⟨e, k', tm', h'⟩ := r
  cases hx : aexec C π n a k tm h with
  | none => simp only []; simp
  | some y =>
    obtain ⟨e1, k1, tm1, h1⟩ := y
    cases e1 with
    | exit j =>
      constructor
      · intro heq; cases heq; exact .inl ⟨_, _, _, _, rfl, rfl⟩
      · rintro (⟨_, _, _, _, heq, hh⟩ | ⟨heq, hh⟩)
        · cases heq; rw [hh]
        · cases heq; exact absurd rfl (hh _)
    | _ =>
      constructor
      · intro heq; exact .inr ⟨heq, by cases heq; simp⟩
      · rintro (⟨_, _, _, _, heq, hh⟩ | ⟨heq, hh⟩)
        · cases heq
        · exact heq
theorem loop_inv {a : ICode} : aexec C π (n + 1) (.loop a) k tm h = some r ↔
    (∃ k' tm' h', aexec C π n a k tm h = some (.norm, k', tm', h') ∧ aexec C π n (.loop a) k' tm' h' = some r) ∨ (aexec C π n a k tm h = some r ∧ r.1 ≠ .norm) := by
  simp only [aexec]
  obtain ⟨e, k', tm', h'⟩ := r
  cases hx : aexec C π n a k tm h with
  | none => simp only []; simp
  | some y =>
    obtain ⟨e1, k1, tm1, h1⟩ := y
    cases e1 with
    | norm =>
      constructor
      · intro hh; exact .inl ⟨_, _, _, rfl, hh⟩
      · rintro (⟨_, _, _, heq, hh⟩ | ⟨heq, hh⟩)
        · cases heq; exact hh
        · cases heq; exact absurd rfl hh
    | _ =>
      constructor
      · intro heq; exact .inr ⟨heq, by cases heq; simp⟩
      · rintro (⟨_, _, _, heq, hh⟩ | ⟨heq, hh⟩)
        · cases heq
        · exact heq
end
theorem aexec_mono {C C' : CF} (hc : CF.le C C') {π : Id} : ∀ {n m : Nat} {c : ICode} {k : Nat} {tm : List AV} {h : AH} {r : Ex × Nat × List AV × AH}, n ≤ m → aexec C π n c k tm h = some r → aexec C' π m c k tm h = some r
  | 0, _, _, _, _, _, _, _, e => by simp [aexec] at e
  | n + 1, 0, _, _, _, _, _, hn, _ => by omega
  | n + 1, m + 1, c, k, tm, h, r, hn, e => by
    have ih := fun {c k tm h r} => @aexec_mono C C' hc π n m c k tm h r (by omega)
    cases c
    case reg => obtain ⟨x, hx, rfl⟩ := reg_inv.1 e; exact reg_inv.2 ⟨x, aplan_mono hc hx, rfl⟩
    case seq =>
                rcases seq_inv.1 e with ⟨k', tm', h', h1, h2⟩ | ⟨h1, h2⟩
                · exact seq_inv.2 (.inl ⟨_, _, _, ih h1, ih h2⟩)
                · exact seq_inv.2 (.inr ⟨ih h1, h2⟩)
    case cond =>
                rcases cond_inv.1 e with ⟨h1, h2⟩ | ⟨h1, h2⟩
                · exact cond_inv.2 (.inl ⟨h1, ih h2⟩)
                · exact cond_inv.2 (.inr ⟨h1, ih h2⟩)
    case block =>
                rcases block_inv.1 e with ⟨j, k', tm', h', h1, h2⟩ | ⟨h1, h2⟩
                · exact block_inv.2 (.inl ⟨_, _, _, _, ih h1, h2⟩)
                · exact block_inv.2 (.inr ⟨ih h1, h2⟩)
    case loop =>
                rcases loop_inv.1 e with ⟨k', tm', h', h1, h2⟩ | ⟨h1, h2⟩
                · exact loop_inv.2 (.inl ⟨_, _, _, ih h1, ih h2⟩)
                · exact loop_inv.2 (.inr ⟨ih h1, h2⟩)
    all_goals (simp only [aexec] at e ⊢; exact e)
/-- A call: its code, and what it answers. -/
theorem call_inv {T : FuncId → Option IFunc} {n : Nat} {f : FuncId} {π : Id} {args : List AV} {h : AH} {r : AV × AH} : acall T (n + 1) f π args h = some r ↔
    (∃ fn p, T f = some fn ∧ fn.prim = some p ∧ p.run π args h = some r) ∨
    ∃ fn e k tm h' l, T f = some fn ∧ fn.prim = none ∧ aexec (acall T n) π n fn.body 0 (args ++ List.replicate (fn.nt - args.length) (.tup [])) h = some (e, k, tm, h') ∧ (∀ j, e ≠ .exit j) ∧ ares tm h' fn.res = some l ∧ r = (atup l, h') := by
  simp only [acall]
  cases hT : T f with
  | none => simp
  | some fn =>
    simp only []
    cases hp : fn.prim with
    | some p =>
      simp only []
      constructor
      · intro e; exact .inl ⟨fn, p, rfl, hp, e⟩
      · rintro (⟨fn', p', h1, h2, h3⟩ | ⟨fn', e, k, tm, h', l, h1, h2, _⟩)
        · cases h1; rw [hp] at h2; cases h2; exact h3
        · cases h1; rw [hp] at h2; cases h2
    | none =>
    simp only []
    have no : ¬ ∃ fn' p, some fn = some fn' ∧ fn'.prim = some p ∧ p.run π args h = some r := by
      rintro ⟨fn', p', h1, h2, h3⟩; cases h1; rw [hp] at h2; cases h2
    simp only [no, false_or]
    cases hx : aexec (acall T n) π n fn.body 0 (args ++ List.replicate (fn.nt - args.length) (.tup [])) h with
    | none =>
      simp only [reduceCtorEq, false_iff]
      rintro ⟨fn', e, k, tm, h', l, h1, _, h2, h3, h4, rfl⟩
      cases h1; rw [hx] at h2; cases h2
    | some y =>
      obtain ⟨e1, k1, tm1, h1⟩ := y
      cases e1 with
      | exit j =>
        simp only [reduceCtorEq, false_iff]
        rintro ⟨fn', e, k, tm, h', l, h1, _, h2, h3, h4, rfl⟩
        cases h1; rw [hx] at h2; cases h2; exact h3 _ rfl
      | norm =>
        simp only [Option.map_eq_some_iff]
        constructor
        · rintro ⟨l, hl, rfl⟩; exact ⟨fn, _, _, _, _, l, rfl, hp, hx, by simp, hl, rfl⟩
        · rintro ⟨fn', e, k, tm, h', l, h1, _, h2, h3, h4, rfl⟩
          cases h1; rw [hx] at h2; cases h2; exact ⟨l, h4, rfl⟩
      | ret =>
        simp only [Option.map_eq_some_iff]
        constructor
        · rintro ⟨l, hl, rfl⟩; exact ⟨fn, _, _, _, _, l, rfl, hp, hx, by simp, hl, rfl⟩
        · rintro ⟨fn', e, k, tm, h', l, h1, _, h2, h3, h4, rfl⟩
          cases h1; rw [hx] at h2; cases h2; exact ⟨l, h4, rfl⟩
theorem acall_mono (T : FuncId → Option IFunc) : ∀ {n m : Nat}, n ≤ m → CF.le (acall T n) (acall T m)
  | 0, _, _ => fun _ _ _ _ _ e => by simp [acall] at e
  | n + 1, 0, hn => by omega
  | n + 1, m + 1, hn => fun f id args h r e => by
    rcases call_inv.1 e with q | ⟨fn, e', k, tm, h', l, h1, hp, h2, h3, h4, h5⟩
    · exact call_inv.2 (.inl q)
    · exact call_inv.2 (.inr ⟨fn, e', k, tm, h', l, h1, hp, aexec_mono (acall_mono T (by omega)) (by omega) h2, h3, h4, h5⟩)
/-- What slices.Insert does, told. -/
theorem ains_inv {sz bytes : Nat} {id : Id} {s v : AV} {i : Int} {h : AH} {r : AV × AH} (e : ains sz bytes id s i v h = some r) :
    ∃ j o' m c, v.fg = .slc j o' m sz ∧ h j = some c ∧ c.own = true ∧ 1 ≤ m ∧ o' + m * sz ≤ c.cells.length ∧ ((c.cells.drop o').take (m * sz)).all AV.scalar = true ∧
      ((s.fg = .nils ∧ i = 0 ∧ m * bytes ≤ roomMost ∧ r = (.slc id 0 m sz, h.set id (some ⟨true, (c.cells.drop o').take (m * sz)⟩))) ∨
       (∃ i1 o n b, s.fg = .slc i1 o n sz ∧ h i1 = some b ∧ i1 ≠ j ∧ b.own = true ∧ o + n * sz ≤ b.cells.length ∧ ((b.cells.drop o).take (n * sz)).all AV.scalar = true ∧ 0 ≤ i ∧ i ≤ n ∧ (n + m) * bytes ≤ roomMost ∧
         r = (.slc id 0 (n + m) sz, (h.set i1 none).set id (some ⟨true, (b.cells.drop o).take (i.toNat * sz) ++ (c.cells.drop o').take (m * sz) ++ (b.cells.drop (o + i.toNat * sz)).take ((n - i.toNat) * sz)⟩)))) := by
  unfold ains at e
  split at e
  case h_2 => cases e
  rename_i j o' m sz' hv
  split at e
  case h_2 => cases e
  rename_i c hc
  split at e
  case isFalse => cases e
  rename_i hk
  obtain ⟨rfl, k1, k2, k3, k4⟩ := hk
  refine ⟨j, o', m, c, hv, hc, k1, k2, k3, k4, ?_⟩
  split at e
  · rename_i hs
    split at e <;> cases e
    rename_i hk
    exact .inl ⟨hs, hk.1, hk.2, rfl⟩
  · rename_i i1 o n sz1 hs
    split at e
    case h_2 => cases e
    rename_i b hb
    split at e <;> cases e
    rename_i hk
    obtain ⟨rfl, q1, q2, q3, q4, q5, q6, q7⟩ := hk
    exact .inr ⟨i1, o, n, b, hs, hb, q1, q2, q3, q4, q5, q6, q7, rfl⟩
  · cases e
theorem ains_of {sz bytes : Nat} {id : Id} {s v : AV} {i : Int} {h : AH} {j : Id} {o' m : Nat} {c : Blk} (hv : v.fg = .slc j o' m sz) (hc : h j = some c) (k1 : c.own = true) (k2 : 1 ≤ m) (k3 : o' + m * sz ≤ c.cells.length) (k4 : ((c.cells.drop o').take (m * sz)).all AV.scalar = true)
    {i1 : Id} {o n : Nat} {b : Blk} (hs : s.fg = .slc i1 o n sz) (hb : h i1 = some b) (q1 : i1 ≠ j) (q2 : b.own = true) (q3 : o + n * sz ≤ b.cells.length) (q4 : ((b.cells.drop o).take (n * sz)).all AV.scalar = true) (q5 : 0 ≤ i) (q6 : i ≤ n) (q7 : (n + m) * bytes ≤ roomMost) :
    ains sz bytes id s i v h = some (.slc id 0 (n + m) sz, (h.set i1 none).set id (some ⟨true, (b.cells.drop o).take (i.toNat * sz) ++ (c.cells.drop o').take (m * sz) ++ (b.cells.drop (o + i.toNat * sz)).take ((n - i.toNat) * sz)⟩)) := by
  unfold ains
  rw [hv]
  simp only [hc]
  rw [if_pos ⟨trivial, k1, k2, k3, k4⟩]
  rw [hs]
  simp only [hb]
  rw [if_pos ⟨trivial, q1, q2, q3, q4, q5, q6, q7⟩]
theorem ains_nil {sz bytes : Nat} {id : Id} {s v : AV} {h : AH} {j : Id} {o' m : Nat} {c : Blk} (hv : v.fg = .slc j o' m sz) (hc : h j = some c) (k1 : c.own = true) (k2 : 1 ≤ m) (k3 : o' + m * sz ≤ c.cells.length) (k4 : ((c.cells.drop o').take (m * sz)).all AV.scalar = true)
    (hs : s.fg = .nils) (q7 : m * bytes ≤ roomMost) :
    ains sz bytes id s 0 v h = some (.slc id 0 m sz, h.set id (some ⟨true, (c.cells.drop o').take (m * sz)⟩)) := by
  unfold ains
  rw [hv]
  simp only [hc]
  rw [if_pos ⟨trivial, k1, k2, k3, k4⟩]
  rw [hs]
  simp only []
  rw [if_pos ⟨trivial, q7⟩]
theorem prim_inv {p : Prim} {id : Id} {args : List AV} {h : AH} {r : AV × AH} (e : p.run id args h = some r) :
    (∃ g v, p = .pure g ∧ args.all AV.pl = true ∧ g args = some v ∧ v.pl = true ∧ r = (v, h)) ∨ (∃ sz bytes s i v, p = .ins sz bytes ∧ args = [s, .int .i64 i, v] ∧ ains sz bytes id s i v h = some r) := by
  unfold Prim.run at e
  split at e
  · split at e
    case isFalse => cases e
    rename_i h1
    split at e
    case h_2 => cases e
    rename_i v hv
    split at e
    case isFalse => cases e
    rename_i h2
    cases e
    exact .inl ⟨_, v, rfl, h1, hv, h2, rfl⟩
  · exact .inr ⟨_, _, _, _, _, rfl, rfl, e⟩
  · cases e
end Go.Proofs.YtgekngfnhhdamaaM
