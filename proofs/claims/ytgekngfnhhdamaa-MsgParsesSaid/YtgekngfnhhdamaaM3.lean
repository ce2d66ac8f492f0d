/- The machine: the names that a run takes, and what stands beside its heap; no conditions. -/
import Derived.Test.YtgekngfnhhdamaaM2
set_option linter.unusedVariables false
set_option linter.unusedSimpArgs false
namespace Go.Proofs.YtgekngfnhhdamaaM
open Go

/-! ### names -/
def Dom (id : Id) (h h' : AH) : Prop := ∀ j, h' j ≠ none → h j ≠ none ∨ id <:+ j
def CDom (C : CF) : Prop := ∀ f id args h r, C f id args h = some r → Dom id h r.2
theorem Dom.refl (id : Id) (h : AH) : Dom id h h := fun _ hj => .inl hj
theorem Dom.trans {id : Id} {a b c : AH} (h : Dom id a b) (h' : Dom id b c) : Dom id a c := fun j hj => (h' j hj).elim (h j) .inr
theorem Dom.up {id id' : Id} {a b : AH} (h : Dom id' a b) (hs : id <:+ id') : Dom id a b := fun j hj => (h j hj).imp (fun x => x) (hs.trans ·)
theorem Dom.set (id : Id) (h : AH) (b : Option Blk) : Dom id h (h.set id b) := by
  intro j hj
  simp only [AH.set] at hj
  split at hj
  · rename_i e; subst e; exact .inr (List.suffix_refl _)
  · exact .inl hj
theorem Dom.setOld {id i : Id} {h : AH} (b : Option Blk) (hi : h i ≠ none) : Dom id h (h.set i b) := by
  intro j hj
  simp only [AH.set] at hj
  split at hj
  · rename_i e; subst e; exact .inl hi
  · exact .inl hj
theorem Dom.put {id i : Id} {h h' : AH} {o : Nat} {l : List AV} (e : h.put i o l = some h') : Dom id h h' := by
  unfold AH.put at e
  split at e
  · rename_i b hb
    split at e
    · cases e; exact Dom.setOld _ (by simp [hb])
    · cases e
  · cases e
theorem Dom.app {id : Id} {h : AH} {sz bytes n : Nat} {s : AV} {cs : List AV} {r : AV × AH} (e : aapp h id sz bytes s n cs = some r) : Dom id h r.2 := by
  unfold aapp at e
  split at e
  · split at e
    · cases e; exact Dom.refl _ _
    · split at e <;> cases e; exact Dom.refl _ _
    · split at e <;> cases e; exact Dom.refl _ _
    · cases e
  · split at e
    · split at e
      · split at e <;> cases e; exact Dom.set _ _ _
      · split at e
        · rename_i b hb
          split at e
          · cases e; exact (Dom.setOld (i := _) none (by simp [hb])).trans (Dom.set _ _ _)
          · cases e
        · cases e
      · split at e
        · rename_i b hb
          split at e
          · split at e
            · obtain ⟨x, hx, rfl⟩ := Option.map_eq_some_iff.1 e; exact Dom.put hx
            · split at e
              · cases e; exact Dom.set _ _ _
              · cases e; exact (Dom.setOld (i := _) none (by simp [hb])).trans (Dom.set _ _ _)
          · cases e
        · cases e
      · cases e
    · cases e
theorem aop_dom {C : CF} (hc : CDom C) {id : Id} {op : IOp} {tm : List AV} {h : AH} {r : AV × AH} (e : aop C id op tm h = some r) : Dom id h r.2 := by
  cases op <;> simp only [aop] at e <;> repeat' (split at e)
  all_goals first
    | (cases e; done)
    | (cases e; first | exact Dom.refl _ _ | exact Dom.set _ _ _)
    | exact hc _ _ _ _ _ e
    | exact Dom.app e
    | (obtain ⟨x, hx, rfl⟩ := Option.map_eq_some_iff.1 e; first | exact Dom.refl _ _ | exact Dom.put hx)
theorem astep_dom {C : CF} (hc : CDom C) {id : Id} {o : IOper} {tm : List AV} {h : AH} {r : List AV × AH} (e : astep C id o tm h = some r) : Dom id h r.2 := by
  unfold astep at e
  split at e
  · obtain ⟨x, hx, rfl⟩ := Option.map_eq_some_iff.1 e
    exact aop_dom hc hx
  · cases e; exact Dom.refl _ _
  · cases e
theorem aplan_dom {C : CF} (hc : CDom C) {κ : Id} {ops : List IOper} : ∀ {plan : List (Nat × Bool)} {tm : List AV} {h : AH} {r : List AV × AH}, aplan C κ ops plan tm h = some r → Dom κ h r.2
  | [], _, _, _, e => by cases e; exact Dom.refl _ _
  | (i, chk) :: rest, tm, h, r, e => by
    unfold aplan at e
    split at e
    · cases e
    · split at e
      · cases e
      · rename_i tm' h' hs
        have hd := (astep_dom hc hs).up (List.suffix_cons i κ)
        split at e
        · split at e
          · exact aplan_dom hc e
          · cases e
        · exact hd.trans (aplan_dom hc e)
/-- The names from the k-th on, below the m-th. -/
def DomK (π : Id) (k m : Nat) (h h' : AH) : Prop := ∀ j, h' j ≠ none → h j ≠ none ∨ ∃ q, k ≤ q ∧ q < m ∧ (q :: π) <:+ j
theorem DomK.trans {π : Id} {k m p : Nat} {a b c : AH} (hk : k ≤ m) (hm : m ≤ p) (h : DomK π k m a b) (h' : DomK π m p b c) : DomK π k p a c := fun j hj => by
  rcases h' j hj with h1 | ⟨q, h1, h2, h3⟩
  · rcases h j h1 with h1 | ⟨q, h1, h2, h3⟩
    · exact .inl h1
    · exact .inr ⟨q, h1, by omega, h3⟩
  · exact .inr ⟨q, by omega, h2, h3⟩
theorem DomK.dom {π : Id} {k m : Nat} {a b : AH} (h : DomK π k m a b) : Dom π a b := fun j hj => (h j hj).imp (fun x => x) fun ⟨q, _, _, hs⟩ => (List.suffix_cons q π).trans hs
theorem aexec_dom {C : CF} (hc : CDom C) {π : Id} : ∀ {n : Nat} {c : ICode} {k : Nat} {tm : List AV} {h : AH} {e : Ex} {k' : Nat} {tm' : List AV} {h' : AH}, aexec C π n c k tm h = some (e, k', tm', h') → k ≤ k' ∧ DomK π k k' h h'
  | 0, _, _, _, _, _, _, _, _, e => by simp [aexec] at e
  | n + 1, c, k, tm, h, ex, k', tm', h', e => by
    have ih := fun {c k tm h e k' tm' h'} => @aexec_dom C hc π n c k tm h e k' tm' h'
    have same : ∀ {h : AH}, DomK π k k h h := fun j hj => .inl hj
    cases c
    case reg =>
      obtain ⟨x, hx, he⟩ := reg_inv.1 e
      cases he
      refine ⟨by omega, fun j hj => (aplan_dom hc hx j hj).imp (fun x => x) fun hs => ⟨k, by omega, by omega, hs⟩⟩
    case seq =>
      rcases seq_inv.1 e with ⟨k1, tm1, h1, e1, e2⟩ | ⟨e1, _⟩
      · have d1 := ih e1; have d2 := ih e2; exact ⟨by omega, d1.2.trans d1.1 d2.1 d2.2⟩
      · exact ih e1
    case cond => rcases cond_inv.1 e with ⟨_, e1⟩ | ⟨_, e1⟩ <;> exact ih e1
    case block =>
      rcases block_inv.1 e with ⟨j, k1, tm1, h1, e1, e2⟩ | ⟨e1, _⟩
      · cases e2; exact ih e1
      · exact ih e1
    case loop =>
      rcases loop_inv.1 e with ⟨k1, tm1, h1, e1, e2⟩ | ⟨e1, _⟩
      · have d1 := ih e1; have d2 := ih e2; exact ⟨by omega, d1.2.trans d1.1 d2.1 d2.2⟩
      · exact ih e1
    all_goals (simp only [aexec] at e; cases e; exact ⟨Nat.le_refl _, same⟩)
theorem prim_dom {p : Prim} {id : Id} {args : List AV} {h : AH} {r : AV × AH} (e : p.run id args h = some r) : Dom id h r.2 := by
  rcases prim_inv e with ⟨g, v, rfl, _, _, _, rfl⟩ | ⟨sz, bytes, s, i, v, rfl, rfl, e⟩
  · exact Dom.refl _ _
  · obtain ⟨j, o', m, c, _, _, _, _, _, _, q⟩ := ains_inv e
    rcases q with ⟨_, _, _, rfl⟩ | ⟨i1, o, n, b, _, hb, _, _, _, _, _, _, _, rfl⟩
    · exact Dom.set _ _ _
    · exact (Dom.setOld (i := _) none (by simp [hb])).trans (Dom.set _ _ _)
theorem acall_dom (T : FuncId → Option IFunc) : ∀ n, CDom (acall T n)
  | 0 => fun _ _ _ _ _ e => by simp [acall] at e
  | n + 1 => fun f id args h r e => by
    rcases call_inv.1 e with ⟨fn, p, _, _, q⟩ | ⟨fn, e', k, tm, h', l, h1, _, h2, h3, h4, rfl⟩
    · exact prim_dom q
    · exact (aexec_dom (acall_dom T n) h2).2.dom

/-! ### what stands beside -/
/-- X holds nothing of h, and no name that 'id' may take. -/
structure Free (id : Id) (h X : AH) : Prop where
  off : ∀ j, h j ≠ none → X j = none
  names : ∀ j, id <:+ j → X j = none
theorem Free.of_dom {id : Id} {h h' X : AH} (f : Free id h X) (d : Dom id h h') : Free id h' X :=
  ⟨fun j hj => (d j hj).elim (f.off j) (f.names j), f.names⟩
theorem Free.down {id id' : Id} {h X : AH} (f : Free id h X) (hs : id <:+ id') : Free id' h X := ⟨f.off, fun j hj => f.names j (hs.trans hj)⟩
def CFrame (C : CF) : Prop := ∀ f id args h r X, Free id h X → C f id args h = some r → C f id args (h.join X) = some (r.1, r.2.join X)
theorem join_some {h X : AH} {i : Id} {b : Blk} (e : h i = some b) : h.join X i = some b := by simp [AH.join, e]
theorem cell_join {h X : AH} {i : Id} {o : Nat} {v : AV} (e : h.cell i o = some v) : (h.join X).cell i o = some v := by
  unfold AH.cell at *
  split at e
  · rename_i b hb; simp only [join_some hb]; exact e
  · cases e
theorem cellsAt_join {h X : AH} {i : Id} {o n : Nat} {v : List AV} (e : h.cellsAt i o n = some v) : (h.join X).cellsAt i o n = some v := by
  unfold AH.cellsAt at *
  split at e
  · rename_i b hb; simp only [join_some hb]; exact e
  · cases e
theorem set_join (h X : AH) (i : Id) (b : Blk) : (h.set i (some b)).join X = (h.join X).set i (some b) := by
  funext j
  simp only [AH.set, AH.join]
  by_cases hj : j = i <;> simp [hj]
theorem kill_join {h X : AH} {i : Id} (hx : X i = none) : (h.set i none).join X = (h.join X).set i none := by
  funext j
  simp only [AH.set, AH.join]
  by_cases hj : j = i
  · subst hj; simp [hx]
  · simp [hj]
theorem put_join {h X h' : AH} {i : Id} {o : Nat} {l : List AV} (e : h.put i o l = some h') : (h.join X).put i o l = some (h'.join X) := by
  unfold AH.put at *
  split at e
  · rename_i b hb
    simp only [join_some hb]
    split at e
    · rename_i hk; cases e; rw [if_pos hk, set_join]
    · cases e
  · cases e
theorem aslice_join {h X : AH} {sz : Nat} {v : AV} {r : Nat × List AV} (e : aslice h sz v = some r) : aslice (h.join X) sz v = some r := by
  unfold aslice at *
  split at e
  · exact e
  · split at e
    · rename_i hk
      obtain ⟨x, hx, rfl⟩ := Option.map_eq_some_iff.1 e
      simp only [if_pos hk, cellsAt_join hx]; rfl
    · cases e
  · cases e
theorem aapp_join {id : Id} {h X : AH} (f : Free id h X) {sz bytes n : Nat} {s : AV} {cs : List AV} {r : AV × AH} (e : aapp h id sz bytes s n cs = some r) : aapp (h.join X) id sz bytes s n cs = some (r.1, r.2.join X) := by
  unfold aapp at *
  split at e
  · rename_i hn
    rw [if_pos hn]
    split at e
    · cases e; rfl
    · split at e <;> cases e; rename_i hk; simp only [if_pos hk]
    · split at e <;> cases e; rename_i hk; simp only [if_pos hk]
    · cases e
  · rename_i hn
    rw [if_neg hn]
    split at e
    · rename_i hs
      rw [if_pos hs]
      split at e
      · split at e <;> cases e
        rename_i hk; simp only [if_pos hk, set_join]
      · split at e
        · rename_i b hb
          split at e
          · rename_i hk
            cases e
            simp only [join_some hb, if_pos hk, set_join, kill_join (f.off _ (by rw [hb]; simp))]
          · cases e
        · cases e
      · split at e
        · rename_i b hb
          split at e
          · rename_i hk
            simp only [join_some hb, if_pos hk]
            split at e
            · rename_i hc
              obtain ⟨x, hx, rfl⟩ := Option.map_eq_some_iff.1 e
              simp only [if_pos hc, put_join hx, Option.map_some]
            · rename_i hc
              simp only [if_neg hc]
              split at e
              · rename_i hx
                cases e
                simp only [if_pos hx, set_join]
              · rename_i hx
                cases e
                simp only [if_neg hx, set_join, kill_join (f.off _ (by rw [hb]; simp))]
          · cases e
        · cases e
      · cases e
    · cases e
theorem aop_join {C : CF} (hc : CFrame C) {id : Id} {op : IOp} {tm : List AV} {h X : AH} {r : AV × AH} (f : Free id h X) (e : aop C id op tm h = some r) : aop C id op tm (h.join X) = some (r.1, r.2.join X) := by
  cases op <;> simp only [aop] at e ⊢
  case load sh a =>
    split at e
    · split at e
      · obtain ⟨x, hx, rfl⟩ := Option.map_eq_some_iff.1 e; simp only [cell_join hx, Option.map_some]
      · obtain ⟨x, hx, rfl⟩ := Option.map_eq_some_iff.1 e; simp only [cellsAt_join hx, Option.map_some]
    · cases e
  case store n a v =>
    split at e
    · split at e
      · rename_i hk; obtain ⟨x, hx, rfl⟩ := Option.map_eq_some_iff.1 e; simp only [if_pos hk, put_join hx, Option.map_some]
      · cases e
    · cases e
  case b2s x =>
    split at e
    · rename_i n l hs
      obtain ⟨x, hx, rfl⟩ := Option.map_eq_some_iff.1 e; simp only [aslice_join hs, hx, Option.map_some]
    · cases e
  case slcA n sz x lo hi =>
    split at e
    · split at e
      · rename_i b hb
        split at e
        · rename_i hk; obtain ⟨y, hy, rfl⟩ := Option.map_eq_some_iff.1 e; simp only [join_some hb, if_pos hk, hy, Option.map_some]
        · cases e
      · cases e
    · cases e
  case app sz bytes s x =>
    split at e
    · split at e
      · rename_i hk; simp only [if_pos hk]; exact aapp_join f e
      · cases e
    · split at e
      · rename_i hs; simp only [aslice_join hs]; exact aapp_join f e
      · cases e
  case ovl sz x y =>
    split at e
    · rename_i i o n sz1 j o' m sz2 hx hy
      split at e
      · rename_i b c hb hc
        split at e
        · rename_i hk
          cases e
          simp only [hx, hy, join_some hb, join_some hc, if_pos hk]
        · cases e
      · cases e
    · cases e
  case appZ sz bytes zero s n =>
    split at e
    · rename_i id1 o m sz' c k hs hk
      split at e
      · rename_i b hb
        split at e
        · rename_i hc
          cases e
          simp only [hs, hk, join_some hb, if_pos hc, set_join]
        · cases e
      · cases e
    · cases e
  case cpy sz d s =>
    split at e
    · rename_i hs hd
      split at e
      · rename_i hk; obtain ⟨x, hx, rfl⟩ := Option.map_eq_some_iff.1 e; simp only [aslice_join hs, hd, if_pos hk, put_join hx, Option.map_some]
      · cases e
    · rename_i hs hd
      cases e
      simp only [aslice_join hs, hd]
    · cases e
  case clr sz zero s =>
    split at e
    · cases e; rfl
    · split at e
      · rename_i hk; obtain ⟨x, hx, rfl⟩ := Option.map_eq_some_iff.1 e; simp only [if_pos hk, put_join hx, Option.map_some]
      · cases e
    · cases e
  case callF => exact hc _ _ _ _ _ _ f e
  case callV =>
    split at e
    · exact hc _ _ _ _ _ _ f e
    · cases e
  all_goals (repeat' (split at e))
  all_goals first
    | (cases e; done)
    | (cases e; first | rfl | (simp only [set_join]; done) | (simp_all [set_join]; done))
    | (obtain ⟨x, hx, rfl⟩ := Option.map_eq_some_iff.1 e; simp_all; done)
theorem astep_join {C : CF} (hc : CFrame C) {id : Id} {o : IOper} {tm : List AV} {h X : AH} {r : List AV × AH} (f : Free id h X) (e : astep C id o tm h = some r) : astep C id o tm (h.join X) = some (r.1, r.2.join X) := by
  unfold astep at *
  split at e
  · obtain ⟨x, hx, rfl⟩ := Option.map_eq_some_iff.1 e
    simp only [aop_join hc f hx]; rfl
  · cases e; rfl
  · cases e
theorem aplan_join {C : CF} (hd : CDom C) (hc : CFrame C) {κ : Id} {ops : List IOper} {X : AH} : ∀ {plan : List (Nat × Bool)} {tm : List AV} {h : AH} {r : List AV × AH}, Free κ h X → aplan C κ ops plan tm h = some r → aplan C κ ops plan tm (h.join X) = some (r.1, r.2.join X)
  | [], _, _, _, _, e => by cases e; rfl
  | (i, chk) :: rest, tm, h, r, f, e => by
    unfold aplan at e ⊢
    split at e
    · cases e
    · split at e
      · cases e
      · rename_i tm' h' hs
        rw [astep_join hc (f.down (List.suffix_cons i κ)) hs]
        simp only []
        split at e
        · rename_i hk
          rw [if_pos hk]
          split at e
          · rename_i ht; rw [if_pos ht]; exact aplan_join hd hc f e
          · cases e
        · rename_i hk
          rw [if_neg hk]
          exact aplan_join hd hc (f.of_dom ((astep_dom hd hs).up (List.suffix_cons i κ))) e
structure FreeK (π : Id) (k : Nat) (h X : AH) : Prop where
  off : ∀ j, h j ≠ none → X j = none
  names : ∀ j q, k ≤ q → (q :: π) <:+ j → X j = none
theorem FreeK.of_dom {π : Id} {k m : Nat} {h h' X : AH} (f : FreeK π k h X) (hk : k ≤ m) (d : DomK π k m h h') : FreeK π m h' X :=
  ⟨fun j hj => (d j hj).elim (f.off j) fun ⟨q, h1, h2, h3⟩ => f.names j q h1 h3, fun j q hq hs => f.names j q (by omega) hs⟩
theorem aexec_join {C : CF} (hd : CDom C) (hc : CFrame C) {π : Id} {X : AH} : ∀ {n : Nat} {c : ICode} {k : Nat} {tm : List AV} {h : AH} {e : Ex} {k' : Nat} {tm' : List AV} {h' : AH}, FreeK π k h X → aexec C π n c k tm h = some (e, k', tm', h') → aexec C π n c k tm (h.join X) = some (e, k', tm', h'.join X)
  | 0, _, _, _, _, _, _, _, _, _, e => by simp [aexec] at e
  | n + 1, c, k, tm, h, ex, k', tm', h', f, e => by
    have ih := fun {c k tm h e k' tm' h'} => @aexec_join C hd hc π X n c k tm h e k' tm' h'
    cases c
    case reg =>
      obtain ⟨x, hx, he⟩ := reg_inv.1 e
      cases he
      exact reg_inv.2 ⟨_, aplan_join hd hc ⟨f.off, fun j hj => f.names j k (Nat.le_refl _) hj⟩ hx, rfl⟩
    case seq =>
      rcases seq_inv.1 e with ⟨k1, tm1, h1, e1, e2⟩ | ⟨e1, h2⟩
      · have d1 := aexec_dom hd e1; exact seq_inv.2 (.inl ⟨_, _, _, ih f e1, ih (f.of_dom d1.1 d1.2) e2⟩)
      · exact seq_inv.2 (.inr ⟨ih f e1, h2⟩)
    case cond =>
      rcases cond_inv.1 e with ⟨h1, e1⟩ | ⟨h1, e1⟩
      · exact cond_inv.2 (.inl ⟨h1, ih f e1⟩)
      · exact cond_inv.2 (.inr ⟨h1, ih f e1⟩)
    case block =>
      rcases block_inv.1 e with ⟨j, k1, tm1, h1, e1, e2⟩ | ⟨e1, h2⟩
      · cases e2; exact block_inv.2 (.inl ⟨_, _, _, _, ih f e1, rfl⟩)
      · exact block_inv.2 (.inr ⟨ih f e1, h2⟩)
    case loop =>
      rcases loop_inv.1 e with ⟨k1, tm1, h1, e1, e2⟩ | ⟨e1, h2⟩
      · have d1 := aexec_dom hd e1; exact loop_inv.2 (.inl ⟨_, _, _, ih f e1, ih (f.of_dom d1.1 d1.2) e2⟩)
      · exact loop_inv.2 (.inr ⟨ih f e1, h2⟩)
    all_goals (simp only [aexec] at e ⊢; cases e; rfl)
theorem ares_join {h X : AH} {tm : List AV} : ∀ {rs : List (Opd × Option Sh)} {l : List AV}, ares tm h rs = some l → ares tm (h.join X) rs = some l
  | [], _, e => e
  | r :: rs, l, e => by
    unfold ares at *
    cases h1 : ares1 tm h r with
    | none => simp [h1] at e
    | some v =>
      cases h2 : ares tm h rs with
      | none => simp [h1, h2] at e
      | some vs =>
        have : ares1 tm (h.join X) r = some v := by
          unfold ares1 at *
          split at h1
          · exact h1
          · split at h1
            · split at h1
              · exact cell_join h1
              · obtain ⟨x, hx, rfl⟩ := Option.map_eq_some_iff.1 h1; simp only [cellsAt_join hx, Option.map_some]
            · cases h1
        rw [this, ares_join h2]
        simpa [h1, h2] using e
theorem prim_join {p : Prim} {id : Id} {args : List AV} {h X : AH} {r : AV × AH} (fr : Free id h X) (e : p.run id args h = some r) : p.run id args (h.join X) = some (r.1, r.2.join X) := by
  rcases prim_inv e with ⟨g, v, rfl, h1, h2, h3, rfl⟩ | ⟨sz, bytes, s, i, v, rfl, rfl, e⟩
  · simp only [Prim.run, h1, h2, h3, if_true]
  · simp only [Prim.run]
    obtain ⟨j, o', m, c, hv, hc, k1, k2, k3, k4, q⟩ := ains_inv e
    rcases q with ⟨hs, rfl, q7, rfl⟩ | ⟨i1, o, n, b, hs, hb, q1, q2, q3, q4, q5, q6, q7, rfl⟩
    · rw [ains_nil hv (join_some hc) k1 k2 k3 k4 hs q7, set_join]
    · rw [ains_of hv (join_some hc) k1 k2 k3 k4 hs (join_some hb) q1 q2 q3 q4 q5 q6 q7, set_join, kill_join (fr.off _ (by rw [hb]; simp))]
theorem acall_join (T : FuncId → Option IFunc) : ∀ n, CFrame (acall T n)
  | 0 => fun _ _ _ _ _ _ _ e => by simp [acall] at e
  | n + 1 => fun f id args h r X fr e => by
    rcases call_inv.1 e with ⟨fn, p, q1, q2, q3⟩ | ⟨fn, e', k, tm, h', l, h1, hp, h2, h3, h4, rfl⟩
    · exact call_inv.2 (.inl ⟨fn, p, q1, q2, prim_join fr q3⟩)
    · exact call_inv.2 (.inr ⟨fn, e', k, tm, _, l, h1, hp, aexec_join (acall_dom T n) (acall_join T n) ⟨fr.off, fun j q _ hs => fr.names j ((List.suffix_cons q id).trans hs)⟩ h2, h3, ares_join h4, rfl⟩)
end Go.Proofs.YtgekngfnhhdamaaM
