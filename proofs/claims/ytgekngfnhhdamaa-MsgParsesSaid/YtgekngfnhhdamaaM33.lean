/- Runs that are worked out, the operations and the codes; no conditions. -/
import Derived.Test.YtgekngfnhhdamaaM32
set_option linter.unusedVariables false
set_option linter.unusedSimpArgs false
namespace Go.Proofs.YtgekngfnhhdamaaM
open Go
section
variable {π : Id}
theorem aop_ren {C : CF} (hc : CRen π C) {id : Id} {op : IOp} {tm : List AV} {h h' : AH} {r : AV × AH} (hcl : closedOp op = true) (hr : RH π h h') (e : aop C id op tm h = some r) : ∃ h1, aop C (id ++ π) op (tm.map (ren π)) h' = some (ren π r.1, h1) ∧ RH π r.2 h1 := by
  cases op <;> simp only [closedOp, Bool.and_eq_true] at hcl <;> simp only [aop] at e ⊢
  case mov x => cases e; exact ⟨h', by rw [ev_ren hcl], hr⟩
  case pick c a b =>
    split at e
    · rename_i t ht
      cases e
      rw [ev_ren hcl.1.1, ht]
      refine ⟨h', ?_, hr⟩
      cases t <;> simp [ren, ev_ren hcl.1.2, ev_ren hcl.2]
    · cases e
  case alloc zero =>
    split at e
    · rename_i hk
      cases e
      refine ⟨h'.set (id ++ π) (some ⟨true, zero⟩), by rw [if_pos hk]; simp [ren], ?_⟩
      have := hr.set id (some ⟨true, zero⟩)
      simpa only [Option.map_some, renB, map_closed hcl] using this
    · cases e
  case box n x =>
    split at e
    · rename_i hk
      cases e
      refine ⟨h'.set (id ++ π) (some ⟨true, (ev tm x).cells.map (ren π)⟩), by rw [ev_ren hcl, ren_cells, all_scalar, List.length_map, if_pos hk]; simp [ren], ?_⟩
      exact hr.set id (some ⟨true, _⟩)
    · cases e
  case build zero parts =>
    obtain ⟨l, hl, rfl⟩ := Option.map_eq_some_iff.1 e
    have := afill_ren (π := π) hl
    rw [map_closed hcl.1] at this
    exact ⟨h', by rw [parts3_ren hcl.2, this]; simp [ren, renL_map], hr⟩
  case buildS sz n zero parts =>
    split at e
    · rename_i l hl
      split at e
      · rename_i hk
        cases e
        have := afill_ren (π := π) hl
        rw [azeros_map, map_closed hcl.1] at this
        refine ⟨h'.set (id ++ π) (some ⟨true, l.map (ren π)⟩), by rw [parts2_ren hcl.2, this]; simp only [all_scalar, if_pos hk, ren], ?_⟩
        exact hr.set id (some ⟨true, l⟩)
      · cases e
    · cases e
  case load sh a =>
    split at e
    · rename_i i o ha
      rw [ev_ren hcl, ha]
      cases sh with
      | none =>
        obtain ⟨x, hx, rfl⟩ := Option.map_eq_some_iff.1 e
        exact ⟨h', by simp only [ren, hr.cell hx, Option.map_some], hr⟩
      | some n =>
        obtain ⟨x, hx, rfl⟩ := Option.map_eq_some_iff.1 e
        exact ⟨h', by simp only [ren, hr.cellsAt hx, Option.map_some, renL_map], hr⟩
    · cases e
  case store n a v =>
    split at e
    · rename_i i o ha
      rw [ev_ren hcl.1, ha, ev_ren hcl.2, ren_cells, List.length_map]
      split at e
      · rename_i hk
        obtain ⟨x, hx, rfl⟩ := Option.map_eq_some_iff.1 e
        obtain ⟨h1, e1, e2⟩ := hr.put hx
        exact ⟨h1, by simp only [ren, if_pos hk, e1, Option.map_some, renL], e2⟩
      · cases e
    · cases e
  case nilck x =>
    rw [ev_ren hcl]
    split at e <;> first | (cases e; done) | skip
    all_goals
      rename_i hx
      cases e
      exact ⟨h', by rw [hx]; simp only [ren], hr⟩
  case bin op x y =>
    obtain ⟨v, hv, rfl⟩ := Option.map_eq_some_iff.1 e
    exact ⟨h', by rw [ev_ren hcl.1, ev_ren hcl.2, abin_ren hv]; rfl, hr⟩
  case eqn k neg x y =>
    obtain ⟨v, hv, rfl⟩ := Option.map_eq_some_iff.1 e
    exact ⟨h', by rw [ev_ren hcl.1, ev_ren hcl.2, ren_fg, ren_fg, aeqn_ren hv]; simp [ren], hr⟩
  case eqs neg ks x y =>
    split at e
    · rename_i l m h1 h2
      obtain ⟨v, hv, rfl⟩ := Option.map_eq_some_iff.1 e
      exact ⟨h', by rw [ev_ren hcl.1, ev_ren hcl.2, h1, h2]; simp only [ren, renL_map, aeqs_ren hv, Option.map_some], hr⟩
    · cases e
  case un op x =>
    obtain ⟨v, hv, rfl⟩ := Option.map_eq_some_iff.1 e
    exact ⟨h', by rw [ev_ren hcl, aun_ren hv]; rfl, hr⟩
  case conv k x =>
    obtain ⟨v, hv, rfl⟩ := Option.map_eq_some_iff.1 e
    exact ⟨h', by rw [ev_ren hcl, aint_ren, hv]; simp [ren], hr⟩
  case s2b x =>
    split at e
    · rename_i s hs
      cases e
      refine ⟨h'.set (id ++ π) (some ⟨true, s.data.toList.map fun b => .int .u8 b.toNat⟩), by rw [ev_ren hcl, hs]; simp [ren], ?_⟩
      have := hr.set id (some ⟨true, s.data.toList.map fun b => AV.int .u8 b.toNat⟩)
      simp only [Option.map_some, renB, List.map_map] at this
      have q : (ren π ∘ fun b : UInt8 => AV.int .u8 b.toNat) = fun b : UInt8 => AV.int .u8 b.toNat := by funext b; simp [ren]
      rw [q] at this
      exact this
    · cases e
  case b2s x =>
    split at e
    · rename_i n l hs
      obtain ⟨v, hv, rfl⟩ := Option.map_eq_some_iff.1 e
      exact ⟨h', by rw [ev_ren hcl, aslice_ren hr hs, abytes_ren hv]; simp [hv, ren], hr⟩
    · cases e
  case mkI t x => cases e; exact ⟨h', by rw [ev_ren hcl]; simp [ren], hr⟩
  case mkF f a b => cases e; exact ⟨h', by rw [evs_ren hcl.1, evs_ren hcl.2]; simp [ren, renL_map], hr⟩
  case mkS sz bytes zero n c =>
    split at e
    · rename_i n' c' h1 h2
      split at e
      · rename_i hk
        cases e
        refine ⟨h'.set (id ++ π) (some ⟨true, azeros zero n'.toNat⟩), by rw [ev_ren hcl.1.2, ev_ren hcl.2, aint_ren, aint_ren, h1, h2]; simp only [if_pos hk, ren], ?_⟩
        have := hr.set id (some ⟨true, azeros zero n'.toNat⟩)
        simpa only [Option.map_some, renB, azeros_map, map_closed hcl.1.1] using this
      · cases e
    · cases e
  case slcStr x lo hi =>
    split at e
    · rename_i s hs
      obtain ⟨v, hv, rfl⟩ := Option.map_eq_some_iff.1 e
      exact ⟨h', by rw [ev_ren hcl.1.1, hs]; simp only [ren, abounds_ren hcl.1.2 hcl.2, hv, Option.map_some], hr⟩
    · cases e
  case slcS sz x lo hi =>
    split at e
    · rename_i i o n sz' hs
      split at e
      · rename_i hk
        obtain ⟨v, hv, rfl⟩ := Option.map_eq_some_iff.1 e
        exact ⟨h', by rw [ev_ren hcl.1.1, hs]; simp only [ren, if_pos hk, abounds_ren hcl.1.2 hcl.2, hv, Option.map_some]; split <;> simp only [ren], hr⟩
      · cases e
    · rename_i i o n sz' c xx hs
      split at e
      · rename_i hk
        obtain ⟨v, hv, rfl⟩ := Option.map_eq_some_iff.1 e
        exact ⟨h', by rw [ev_ren hcl.1.1, hs]; simp only [ren, if_pos hk, aboundsK_ren hcl.1.2 hcl.2, hv, Option.map_some], hr⟩
      · cases e
    · rename_i hs
      obtain ⟨v, hv, rfl⟩ := Option.map_eq_some_iff.1 e
      exact ⟨h', by rw [ev_ren hcl.1.1, hs]; simp only [ren, abounds_ren hcl.1.2 hcl.2, hv, Option.map_some], hr⟩
    · cases e
  case slcS3 sz x lo hi mx =>
    split at e
    · rename_i i o n sz' m hs hm
      split at e
      · rename_i hk
        obtain ⟨v, hv, rfl⟩ := Option.map_eq_some_iff.1 e
        exact ⟨h', by rw [ev_ren hcl.1.1.1, ren_fg, hs, ev_ren hcl.2, aint_ren, hm]; simp only [ren, if_pos hk, abounds_ren hcl.1.1.2 (show closedB (some hi) = true from hcl.1.2), hv, Option.map_some], hr⟩
      · cases e
    · cases e
  case slcA n sz x lo hi =>
    split at e
    · rename_i i o hs
      split at e
      · rename_i b hb
        split at e
        · rename_i hk
          obtain ⟨v, hv, rfl⟩ := Option.map_eq_some_iff.1 e
          exact ⟨h', by rw [ev_ren hcl.1.1, hs]; simp only [ren, hr.at hb, renB, List.length_map, if_pos hk, abounds_ren hcl.1.2 hcl.2, hv, Option.map_some], hr⟩
        · cases e
      · cases e
    · cases e
  case fld off x =>
    split at e
    · rename_i i o hs
      cases e
      exact ⟨h', by rw [ev_ren hcl, hs]; simp only [ren], hr⟩
    · cases e
  case fget sh off x =>
    split at e
    · rename_i l hs
      obtain ⟨v, hv, rfl⟩ := Option.map_eq_some_iff.1 e
      exact ⟨h', by rw [ev_ren hcl, hs]; simp only [ren, renL_map, apart_ren hv, Option.map_some], hr⟩
    · cases e
  case ixS sz x i =>
    split at e
    · rename_i id1 o n sz' k hs hi
      split at e
      · rename_i hk
        cases e
        exact ⟨h', by rw [ev_ren hcl.1, ren_fg, hs, ev_ren hcl.2, aint_ren, hi]; simp only [ren, if_pos hk], hr⟩
      · cases e
    · cases e
  case ixA n sz x i =>
    split at e
    · rename_i id1 o k hs hi
      split at e
      · rename_i hk
        cases e
        exact ⟨h', by rw [ev_ren hcl.1, hs, ev_ren hcl.2, aint_ren, hi]; simp only [ren, if_pos hk], hr⟩
      · cases e
    · cases e
  case ixG n sz sh x i =>
    split at e
    · rename_i l k hs hi
      split at e
      · rename_i hk
        obtain ⟨v, hv, rfl⟩ := Option.map_eq_some_iff.1 e
        exact ⟨h', by rw [ev_ren hcl.1, hs, ev_ren hcl.2, aint_ren, hi]; simp only [ren, renL_map, if_pos hk, apart_ren hv, Option.map_some], hr⟩
      · cases e
    · cases e
  case ixStr x i =>
    split at e
    · rename_i s k hs hi
      split at e
      · rename_i hk
        obtain ⟨v, hv, rfl⟩ := Option.map_eq_some_iff.1 e
        exact ⟨h', by rw [ev_ren hcl.1, hs, ev_ren hcl.2, aint_ren, hi]; simp only [ren, if_pos hk, hv, Option.map_some], hr⟩
      · cases e
    · cases e
  case ext x i =>
    split at e
    · rename_i l hs
      obtain ⟨v, hv, rfl⟩ := Option.map_eq_some_iff.1 e
      exact ⟨h', by rw [ev_ren hcl, hs]; simp only [ren, renL_map, List.getElem?_map, hv, Option.map_some], hr⟩
    · cases e
  case lenS x =>
    split at e
    · rename_i s hs
      cases e
      exact ⟨h', by rw [ev_ren hcl, hs]; simp only [ren], hr⟩
    · cases e
  case lenL x =>
    obtain ⟨v, hv, rfl⟩ := Option.map_eq_some_iff.1 e
    exact ⟨h', by rw [ev_ren hcl, alen_ren, hv]; simp [ren], hr⟩
  case ovl sz x y =>
    split at e
    · rename_i i o n sz1 j o' m sz2 hx hy
      split at e
      · rename_i b c hb hc
        split at e
        · rename_i hk
          cases e
          refine ⟨h', ?_, hr⟩
          rw [ev_ren hcl.1, ren_fg, hx, ev_ren hcl.2, ren_fg, hy]
          simp only [ren, hr.at hb, hr.at hc, renB, List.length_map]
          rw [if_pos ⟨hk.1, hk.2.1, fun q => hk.2.2.1 (List.append_cancel_right q), hk.2.2.2⟩]
        · cases e
      · cases e
    · cases e
  case capL x =>
    split at e
    · rename_i i o n sz c hs
      cases e
      exact ⟨h', by rw [ev_ren hcl, hs]; simp only [ren], hr⟩
    · cases e
  case sstr x =>
    split at e
    · rename_i s hs
      cases e
      exact ⟨h', by rw [ev_ren hcl, hs]; simp only [ren], hr⟩
    · cases e
  case maxi l =>
    obtain ⟨v, hv, rfl⟩ := Option.map_eq_some_iff.1 e
    exact ⟨h', by rw [evs_ren hcl, amaxi_ren hv]; rfl, hr⟩
  case mini l =>
    obtain ⟨v, hv, rfl⟩ := Option.map_eq_some_iff.1 e
    exact ⟨h', by rw [evs_ren hcl, amaxi_ren hv]; rfl, hr⟩
  case app sz bytes s x =>
    rw [ev_ren hcl.1, ev_ren hcl.2]
    split at e
    · rename_i t ht
      rw [ht]
      split at e
      · rename_i hk
        obtain ⟨h1, e1, e2⟩ := aapp_ren hr e
        have q : (t.data.toList.map fun b => AV.int .u8 b.toNat).map (ren π) = t.data.toList.map fun b => AV.int .u8 b.toNat := by simp [ren, Function.comp_def]
        rw [q] at e1
        exact ⟨h1, by simp only [ren, if_pos hk, e1], e2⟩
      · cases e
    · rename_i hns
      split at e
      · rename_i n cs hs
        obtain ⟨h1, e1, e2⟩ := aapp_ren hr e
        have q := aslice_ren hr hs
        refine ⟨h1, ?_, e2⟩
        generalize ev tm x = v at *
        cases v <;> first | (exact absurd rfl (hns _)) | (simp only [ren] at q ⊢; simp only [q, e1]; done)
      · cases e
  case appZ sz bytes zero s n =>
    split at e
    · rename_i id1 o m sz' c k hs hk
      split at e
      · rename_i b hb
        split at e
        · rename_i hc
          cases e
          refine ⟨h'.set (id ++ π) (some ⟨true, (((b.cells.map (ren π)).drop o).take (m * sz)) ++ azeros zero k.toNat⟩), by rw [ev_ren hcl.1.2, hs, ev_ren hcl.2, aint_ren, hk]; simp only [ren, hr.at hb, renB, List.length_map, if_pos hc], ?_⟩
          have := hr.set id (some ⟨true, (b.cells.drop o).take (m * sz) ++ azeros zero k.toNat⟩)
          simpa only [Option.map_some, renB, List.map_append, List.map_take, List.map_drop, azeros_map, map_closed hcl.1.1] using this
        · cases e
      · cases e
    · cases e
  case cpy sz d s =>
    split at e
    · rename_i n cs i o m sz' hs hd
      split at e
      · rename_i hk
        obtain ⟨x, hx, rfl⟩ := Option.map_eq_some_iff.1 e
        obtain ⟨h1, e1, e2⟩ := hr.put hx
        rw [List.map_take] at e1
        exact ⟨h1, by rw [ev_ren hcl.1, ev_ren hcl.2, ren_fg, hd, aslice_ren hr hs]; simp only [ren, if_pos hk, e1, Option.map_some], e2⟩
      · cases e
    · rename_i n cs hs hd
      cases e
      exact ⟨h', by rw [ev_ren hcl.1, ev_ren hcl.2, ren_fg, hd, aslice_ren hr hs]; simp [ren], hr⟩
    · cases e
  case clr sz zero s =>
    split at e
    · rename_i hs
      cases e
      exact ⟨h', by rw [ev_ren hcl.2, ren_fg, hs]; simp [ren, renL], hr⟩
    · rename_i i o n sz' hs
      split at e
      · rename_i hk
        obtain ⟨x, hx, rfl⟩ := Option.map_eq_some_iff.1 e
        obtain ⟨h1, e1, e2⟩ := hr.put hx
        rw [azeros_map, map_closed hcl.1] at e1
        exact ⟨h1, by rw [ev_ren hcl.2, ren_fg, hs]; simp only [ren, if_pos hk, e1, Option.map_some, renL], e2⟩
      · cases e
    · cases e
  case callF f args =>
    rw [evs_ren hcl]
    exact hc _ _ _ _ _ _ hr e
  case callV f args =>
    split at e
    · rename_i g a b hf
      rw [ev_ren hcl.1, hf, evs_ren hcl.2]
      simp only [ren, renL_map]
      have := hc _ _ _ _ _ _ hr e
      simpa only [List.map_append] using this
    · cases e
  case bad => cases e
theorem awanted_ren {tm : List AV} {g : Option (Nat × Bool)} {b : Bool} (e : awanted tm g = some b) : awanted (tm.map (ren π)) g = some b := by
  cases g with
  | none => exact e
  | some p =>
    obtain ⟨t, w⟩ := p
    have q : (tm.map (ren π)).getD t .und = ren π (tm.getD t .und) := ev_ren (x := .t t) rfl
    simp only [awanted, q] at *
    split at e
    · rename_i hh; rw [hh]; simpa only [ren] using e
    · rename_i hh; rw [hh]; simpa only [ren] using e
    · cases e
theorem putT_ren {tm : List AV} {d : Option Nat} {v : AV} : putT (tm.map (ren π)) d (ren π v) = (putT tm d v).map (ren π) := by
  cases d with
  | none => rfl
  | some d => simp only [putT, List.map_set]
theorem astep_ren {C : CF} (hc : CRen π C) {id : Id} {o : IOper} {tm : List AV} {h h' : AH} {r : List AV × AH} (hcl : closedOp o.op = true) (hr : RH π h h') (e : astep C id o tm h = some r) : ∃ h1, astep C (id ++ π) o (tm.map (ren π)) h' = some (r.1.map (ren π), h1) ∧ RH π r.2 h1 := by
  unfold astep at *
  split at e
  · rename_i hw
    obtain ⟨x, hx, rfl⟩ := Option.map_eq_some_iff.1 e
    obtain ⟨h1, e1, e2⟩ := aop_ren hc hcl hr hx
    refine ⟨h1, ?_, e2⟩
    simp only [awanted_ren hw, e1, Option.map_some, putT_ren]
  · rename_i hw
    cases e
    have q : (AV.tup [] : AV) = ren π (.tup []) := by simp [ren, renL]
    refine ⟨h', ?_, hr⟩
    have p := putT_ren (π := π) (tm := tm) (d := o.dst) (v := .tup [])
    rw [← q] at p
    simp only [awanted_ren hw, p]
  · cases e
theorem aplan_ren {C : CF} (hc : CRen π C) {κ : Id} {ops : List IOper} (hcl : (ops.all fun o => closedOp o.op) = true) : ∀ {plan : List (Nat × Bool)} {tm : List AV} {h h' : AH} {r : List AV × AH}, RH π h h' → aplan C κ ops plan tm h = some r → ∃ h1, aplan C (κ ++ π) ops plan (tm.map (ren π)) h' = some (r.1.map (ren π), h1) ∧ RH π r.2 h1
  | [], _, _, _, _, hr, e => by cases e; exact ⟨_, rfl, hr⟩
  | (i, chk) :: rest, tm, h, h', r, hr, e => by
    unfold aplan at e ⊢
    split at e
    · cases e
    · rename_i o ho
      have hco : closedOp o.op = true := (List.all_eq_true.1 hcl) o (List.mem_of_getElem? ho)
      split at e
      · cases e
      · rename_i tm' h2 hs
        obtain ⟨h3, e1, e2⟩ := astep_ren hc hco hr hs
        rw [List.cons_append] at e1
        simp only [ho, e1]
        split at e
        · rename_i hk
          rw [if_pos hk]
          split at e
          · rename_i ht; rw [if_pos (by rw [ht])]; exact aplan_ren hc hcl hr e
          · cases e
        · rename_i hk
          rw [if_neg hk]
          exact aplan_ren hc hcl e2 e
theorem keep_ren (l : List Nat) : ∀ (i : Nat) (tm : List AV), keep l i (tm.map (ren π)) = (keep l i tm).map (ren π)
  | _, [] => rfl
  | i, v :: tm => by
    simp only [keep, List.map_cons, keep_ren l (i + 1) tm]
    split <;> simp [ren]
theorem aexec_ren {C : CF} (hc : CRen π C) {κ : Id} : ∀ {n : Nat} {c : ICode} {k : Nat} {tm : List AV} {h h' : AH} {e : Ex} {k' : Nat} {tm' : List AV} {h1 : AH}, closedC c = true → RH π h h' → aexec C κ n c k tm h = some (e, k', tm', h1) → ∃ h2, aexec C (κ ++ π) n c k (tm.map (ren π)) h' = some (e, k', tm'.map (ren π), h2) ∧ RH π h1 h2
  | 0, _, _, _, _, _, _, _, _, _, _, _, e => by simp [aexec] at e
  | n + 1, c, k, tm, h, h', ex, k', tm', h1, hcl, hr, e => by
    have ih := fun {c k tm h h' e k' tm' h1} => @aexec_ren C hc κ n c k tm h h' e k' tm' h1
    cases c <;> simp only [closedC, Bool.and_eq_true] at hcl
    case reg =>
      obtain ⟨x, hx, he⟩ := reg_inv.1 e
      cases he
      obtain ⟨h2, e1, e2⟩ := aplan_ren hc hcl hr hx
      exact ⟨h2, reg_inv.2 ⟨_, e1, rfl⟩, e2⟩
    case seq =>
      rcases seq_inv.1 e with ⟨k1, tm1, h3, e1, e2⟩ | ⟨e1, h2⟩
      · obtain ⟨h4, f1, f2⟩ := ih hcl.1 hr e1
        obtain ⟨h5, f3, f4⟩ := ih hcl.2 f2 e2
        exact ⟨h5, seq_inv.2 (.inl ⟨_, _, _, f1, f3⟩), f4⟩
      · obtain ⟨h4, f1, f2⟩ := ih hcl.1 hr e1
        exact ⟨h4, seq_inv.2 (.inr ⟨f1, h2⟩), f2⟩
    case cond =>
      rcases cond_inv.1 e with ⟨h2, e1⟩ | ⟨h2, e1⟩
      · obtain ⟨h4, f1, f2⟩ := ih hcl.1.2 hr e1
        exact ⟨h4, cond_inv.2 (.inl ⟨by rw [ev_ren hcl.1.1, h2]; simp [ren], f1⟩), f2⟩
      · obtain ⟨h4, f1, f2⟩ := ih hcl.2 hr e1
        exact ⟨h4, cond_inv.2 (.inr ⟨by rw [ev_ren hcl.1.1, h2]; simp [ren], f1⟩), f2⟩
    case block =>
      rcases block_inv.1 e with ⟨j, k1, tm1, h3, e1, e2⟩ | ⟨e1, h2⟩
      · cases e2
        obtain ⟨h4, f1, f2⟩ := ih hcl hr e1
        exact ⟨h4, block_inv.2 (.inl ⟨_, _, _, _, f1, rfl⟩), f2⟩
      · obtain ⟨h4, f1, f2⟩ := ih hcl hr e1
        exact ⟨h4, block_inv.2 (.inr ⟨f1, h2⟩), f2⟩
    case loop =>
      rcases loop_inv.1 e with ⟨k1, tm1, h3, e1, e2⟩ | ⟨e1, h2⟩
      · obtain ⟨h4, f1, f2⟩ := ih hcl hr e1
        obtain ⟨h5, f3, f4⟩ := ih (c := .loop _) hcl f2 e2
        exact ⟨h5, loop_inv.2 (.inl ⟨_, _, _, f1, f3⟩), f4⟩
      · obtain ⟨h4, f1, f2⟩ := ih hcl hr e1
        exact ⟨h4, loop_inv.2 (.inr ⟨f1, h2⟩), f2⟩
    case mask l =>
      simp only [aexec] at e ⊢
      cases e
      exact ⟨h', by rw [keep_ren], hr⟩
    all_goals (simp only [aexec] at e ⊢; cases e; exact ⟨h', rfl, hr⟩)
theorem ares_ren {h h' : AH} (hr : RH π h h') {tm : List AV} : ∀ {rs : List (Opd × Option Sh)} {l : List AV}, (rs.all fun r => closedO r.1) = true → ares tm h rs = some l → ares (tm.map (ren π)) h' rs = some (l.map (ren π))
  | [], _, _, e => by cases e; rfl
  | r :: rs, l, hcl, e => by
    simp only [List.all_cons, Bool.and_eq_true] at hcl
    unfold ares at *
    cases h1 : ares1 tm h r with
    | none => simp [h1] at e
    | some v =>
      cases h2 : ares tm h rs with
      | none => simp [h1, h2] at e
      | some vs =>
        have : ares1 (tm.map (ren π)) h' r = some (ren π v) := by
          unfold ares1 at *
          split at h1
          · cases h1; rename_i hh; simp only [ev_ren hcl.1]
          · rename_i sh hsh
            split at h1
            · rename_i i o hp
              rw [ev_ren hcl.1, hp]
              simp only [ren]
              split at h1
              · exact hr.cell h1
              · obtain ⟨x, hx, rfl⟩ := Option.map_eq_some_iff.1 h1; simp only [hr.cellsAt hx, Option.map_some, ren, renL_map]
            · cases h1
        rw [this, ares_ren hr hcl.2 h2]
        rw [h1, h2] at e
        cases e
        rfl
theorem atup_ren (l : List AV) : atup (l.map (ren π)) = ren π (atup l) := by
  match l with
  | [] => simp [atup, ren, renL]
  | [v] => simp [atup]
  | a :: b :: l => simp [atup, ren, renL_map]
theorem pl1_ren {v : AV} (h : v.pl1 = true) : ren π v = v := by cases v <;> simp_all [AV.pl1, ren]
theorem pl_ren {v : AV} (h : v.pl = true) : ren π v = v := by
  cases v <;> first | exact pl1_ren h | skip
  all_goals
    simp only [AV.pl, List.all_eq_true] at h
    simp only [ren, renL_map]
    congr 1
    rename_i l
    exact (List.map_congr_left fun x hx => pl1_ren (h x hx)).trans (List.map_id' l)
theorem fg_ren (v : AV) : (ren π v).fg = ren π v.fg := by cases v <;> simp [ren, AV.fg]
theorem prim_ren {p : Prim} {id : Id} {args : List AV} {h h' : AH} {r : AV × AH} (hr : RH π h h') (e : p.run id args h = some r) : ∃ h1, p.run (id ++ π) (args.map (ren π)) h' = some (ren π r.1, h1) ∧ RH π r.2 h1 := by
  rcases prim_inv e with ⟨g, v, rfl, h1, h2, h3, rfl⟩ | ⟨sz, bytes, s, i, v, rfl, rfl, e⟩
  · refine ⟨h', ?_, hr⟩
    have : args.map (ren π) = args := (List.map_congr_left fun x hx => pl_ren (by simpa using List.all_eq_true.1 h1 x hx)).trans (List.map_id' args)
    simp only [this, Prim.run, h1, h2, h3, if_true, pl_ren h3]
  · simp only [List.map_cons, List.map_nil, ren, Prim.run]
    obtain ⟨j, o', m, c, hv, hc, k1, k2, k3, k4, q⟩ := ains_inv e
    have sc : ∀ l : List AV, (l.map (ren π)).all AV.scalar = l.all AV.scalar := fun l => by
      rw [List.all_map]; congr 1; funext x; cases x <;> simp [ren, AV.scalar]
    have hv' : (ren π v).fg = .slc (j ++ π) o' m sz := by rw [fg_ren, hv]; simp [ren]
    have hc' := hr.at hc
    have k3' : o' + m * sz ≤ (renB π c).cells.length := by simpa [renB] using k3
    have k4' : (((renB π c).cells.drop o').take (m * sz)).all AV.scalar = true := by
      simp only [renB, ← List.map_drop, ← List.map_take, sc]; exact k4
    rcases q with ⟨hs, rfl, q7, rfl⟩ | ⟨i1, o, n, b, hs, hb, q1, q2, q3, q4, q5, q6, q7, rfl⟩
    · have hs' : (ren π s).fg = .nils := by rw [fg_ren, hs]; simp [ren]
      refine ⟨h'.set (id ++ π) (some ⟨true, ((renB π c).cells.drop o').take (m * sz)⟩), by rw [ains_nil hv' hc' k1 k2 k3' k4' hs' q7]; simp only [ren], ?_⟩
      have := hr.set id (some ⟨true, (c.cells.drop o').take (m * sz)⟩)
      simpa [renB] using this
    · have hs' : (ren π s).fg = .slc (i1 ++ π) o n sz := by rw [fg_ren, hs]; simp [ren]
      refine ⟨(h'.set (i1 ++ π) none).set (id ++ π) (some ⟨true, ((renB π b).cells.drop o).take (i.toNat * sz) ++ ((renB π c).cells.drop o').take (m * sz) ++ ((renB π b).cells.drop (o + i.toNat * sz)).take ((n - i.toNat) * sz)⟩), by rw [ains_of hv' hc' k1 k2 k3' k4' hs' (hr.at hb) (fun e => q1 (List.append_cancel_right e)) q2 (by simpa [renB] using q3) (by simp only [renB, ← List.map_drop, ← List.map_take, sc]; exact q4) q5 q6 q7]; simp only [ren], ?_⟩
      have := (hr.set i1 none).set id (some ⟨true, (b.cells.drop o).take (i.toNat * sz) ++ (c.cells.drop o').take (m * sz) ++ (b.cells.drop (o + i.toNat * sz)).take ((n - i.toNat) * sz)⟩)
      simpa [renB] using this
theorem acall_ren (T : FuncId → Option IFunc) (hT : ∀ f fn, T f = some fn → closedF fn = true) : ∀ n, CRen π (acall T n)
  | 0 => fun _ _ _ _ _ _ _ e => by simp [acall] at e
  | n + 1 => fun f id args h r h' hr e => by
    rcases call_inv.1 e with ⟨fn, p, q1, q2, q3⟩ | ⟨fn, e', k, tm, h2, l, h1, hpr, h3, h4, h5, rfl⟩
    · obtain ⟨h1, f1, f2⟩ := prim_ren hr q3
      exact ⟨h1, call_inv.2 (.inl ⟨fn, p, q1, q2, f1⟩), f2⟩
    have hcl := hT f fn h1
    simp only [closedF, Bool.and_eq_true] at hcl
    obtain ⟨h6, f1, f2⟩ := aexec_ren (acall_ren T hT n) hcl.1 hr h3
    refine ⟨h6, ?_, f2⟩
    rw [← atup_ren]
    refine call_inv.2 (.inr ⟨fn, e', k, tm.map (ren π), h6, l.map (ren π), h1, hpr, ?_, h4, ares_ren f2 hcl.2 h5, rfl⟩)
    have q : (args ++ List.replicate (fn.nt - args.length) (AV.tup [])).map (ren π) = args.map (ren π) ++ List.replicate (fn.nt - (args.map (ren π)).length) (AV.tup []) := by
      rw [List.map_append, List.map_replicate, List.length_map]; simp [ren, renL]
    rw [← q]; exact f1
end
/-! ### a machine that works out -/
mutual
def beqV : AV → AV → Bool
  | .und, .und => true
  | .bool a, .bool b => a == b
  | .int k a, .int l b => k == l && a == b
  | .str a, .str b => a.data.toList == b.data.toList
  | .nilp, .nilp => true
  | .ptr a o, .ptr b p => a == b && o == p
  | .nils, .nils => true
  | .slc a o n s, .slc b p m t => a == b && o == p && n == m && s == t
  | .slk a o n s c x, .slk b p m t d y => a == b && o == p && n == m && s == t && c == d && x == y
  | .agg a, .agg b => beqL a b
  | .tup a, .tup b => beqL a b
  | .nilI, .nilI => true
  | .iface t a, .iface u b => t == u && beqV a b
  | .nilF, .nilF => true
  | .func f a b, .func g c d => f == g && beqL a c && beqL b d
  | _, _ => false
def beqL : List AV → List AV → Bool
  | [], [] => true
  | a :: l, b :: m => beqV a b && beqL l m
  | _, _ => false
end
theorem str_eq {a b : ByteArray} (h : a.data.toList = b.data.toList) : a = b := by
  cases a; cases b; simp only [ByteArray.mk.injEq]; exact Array.toList_inj.1 h
mutual
theorem beqV_eq : ∀ a b : AV, beqV a b = true → a = b
  | .agg a, .agg b, h => by simp only [beqV] at h; rw [beqL_eq a b h]
  | .tup a, .tup b, h => by simp only [beqV] at h; rw [beqL_eq a b h]
  | .iface t a, .iface u b, h => by simp only [beqV, Bool.and_eq_true, beq_iff_eq] at h; rw [h.1, beqV_eq a b h.2]
  | .func f a b, .func g c d, h => by simp only [beqV, Bool.and_eq_true, beq_iff_eq] at h; rw [h.1.1, beqL_eq a c h.1.2, beqL_eq b d h.2]
  | .und, b, h => by cases b <;> simp [beqV] at h ⊢
  | .bool a, b, h => by cases b <;> simp [beqV] at h ⊢; exact h
  | .int k a, b, h => by cases b <;> simp [beqV] at h ⊢; exact h
  | .str a, b, h => by cases b <;> simp only [beqV, beq_iff_eq] at h <;> first | (cases h; done) | rw [str_eq h]
  | .nilp, b, h => by cases b <;> simp [beqV] at h ⊢
  | .ptr a o, b, h => by cases b <;> simp [beqV] at h ⊢; exact h
  | .nils, b, h => by cases b <;> simp [beqV] at h ⊢
  | .slc a o n s, b, h => by cases b <;> simp [beqV] at h ⊢; exact ⟨h.1.1.1, h.1.1.2, h.1.2, h.2⟩
  | .slk a o n s c x, b, h => by cases b <;> simp [beqV] at h ⊢; exact ⟨h.1.1.1.1.1, h.1.1.1.1.2, h.1.1.1.2, h.1.1.2, h.1.2, h.2⟩
  | .nilI, b, h => by cases b <;> simp [beqV] at h ⊢
  | .nilF, b, h => by cases b <;> simp [beqV] at h ⊢
  | .agg _, .und, h | .agg _, .bool _, h | .agg _, .int _ _, h | .agg _, .str _, h | .agg _, .nilp, h | .agg _, .ptr _ _, h | .agg _, .nils, h | .agg _, .slc _ _ _ _, h | .agg _, .slk _ _ _ _ _ _, h | .agg _, .tup _, h | .agg _, .nilI, h | .agg _, .iface _ _, h | .agg _, .nilF, h | .agg _, .func _ _ _, h => by simp [beqV] at h
  | .tup _, .und, h | .tup _, .bool _, h | .tup _, .int _ _, h | .tup _, .str _, h | .tup _, .nilp, h | .tup _, .ptr _ _, h | .tup _, .nils, h | .tup _, .slc _ _ _ _, h | .tup _, .slk _ _ _ _ _ _, h | .tup _, .agg _, h | .tup _, .nilI, h | .tup _, .iface _ _, h | .tup _, .nilF, h | .tup _, .func _ _ _, h => by simp [beqV] at h
  | .iface _ _, .und, h | .iface _ _, .bool _, h | .iface _ _, .int _ _, h | .iface _ _, .str _, h | .iface _ _, .nilp, h | .iface _ _, .ptr _ _, h | .iface _ _, .nils, h | .iface _ _, .slc _ _ _ _, h | .iface _ _, .slk _ _ _ _ _ _, h | .iface _ _, .tup _, h | .iface _ _, .nilI, h | .iface _ _, .agg _, h | .iface _ _, .nilF, h | .iface _ _, .func _ _ _, h => by simp [beqV] at h
  | .func _ _ _, .und, h | .func _ _ _, .bool _, h | .func _ _ _, .int _ _, h | .func _ _ _, .str _, h | .func _ _ _, .nilp, h | .func _ _ _, .ptr _ _, h | .func _ _ _, .nils, h | .func _ _ _, .slc _ _ _ _, h | .func _ _ _, .slk _ _ _ _ _ _, h | .func _ _ _, .tup _, h | .func _ _ _, .nilI, h | .func _ _ _, .iface _ _, h | .func _ _ _, .nilF, h | .func _ _ _, .agg _, h => by simp [beqV] at h
theorem beqL_eq : ∀ a b : List AV, beqL a b = true → a = b
  | [], [], _ => rfl
  | a :: l, b :: m, h => by simp only [beqL, Bool.and_eq_true] at h; rw [beqV_eq a b h.1, beqL_eq l m h.2]
  | [], _ :: _, h => by simp [beqL] at h
  | _ :: _, [], h => by simp [beqL] at h
end
/-- As the machine, but a look compares by a test that can be worked out. -/
def xplan (C : CF) (κ : Id) (ops : List IOper) : List (Nat × Bool) → List AV → AH → Option (List AV × AH)
  | [], tm, h => some (tm, h)
  | (i, chk) :: rest, tm, h =>
    match ops[i]? with
    | none => none
    | some o =>
      match astep C (i :: κ) o tm h with
      | none => none
      | some (tm', h') => if chk then (if beqL tm' tm then xplan C κ ops rest tm h else none) else xplan C κ ops rest tm' h'
def xexec (C : CF) (π : Id) : Nat → ICode → Nat → List AV → AH → Option (Ex × Nat × List AV × AH)
  | 0, _, _, _, _ => none
  | n + 1, c, k, tm, h =>
    match c with
    | .skip => some (.norm, k, tm, h)
    | .reg plan ops => (xplan C (k :: π) ops plan tm h).map fun r => (.norm, k + 1, r.1, r.2)
    | .seq a b =>
      match xexec C π n a k tm h with
      | some (.norm, k', tm', h') => xexec C π n b k' tm' h'
      | r => r
    | .cond x a b =>
      match ev tm x with
      | .bool true => xexec C π n a k tm h
      | .bool false => xexec C π n b k tm h
      | _ => none
    | .block i a =>
      match xexec C π n a k tm h with
      | some (.exit j, k', tm', h') => some (if j = i then .norm else .exit j, k', tm', h')
      | r => r
    | .loop a =>
      match xexec C π n a k tm h with
      | some (.norm, k', tm', h') => xexec C π n (.loop a) k' tm' h'
      | r => r
    | .exit i => some (.exit i, k, tm, h)
    | .ret => some (.ret, k, tm, h)
    | .mask live => some (.norm, k, keep live 0 tm, h)
def xcall (T : FuncId → Option IFunc) : Nat → CF
  | 0, _, _, _, _ => none
  | n + 1, f, π, args, h =>
    match T f with
    | none => none
    | some fn =>
      match fn.prim with
      | some p => p.run π args h
      | none =>
      match xexec (xcall T n) π n fn.body 0 (args ++ List.replicate (fn.nt - args.length) (.tup [])) h with
      | some (.norm, _, tm, h') => (ares tm h' fn.res).map fun l => (atup l, h')
      | some (.ret, _, tm, h') => (ares tm h' fn.res).map fun l => (atup l, h')
      | _ => none
theorem xplan_le {C : CF} {κ : Id} {ops : List IOper} : ∀ {plan : List (Nat × Bool)} {tm : List AV} {h : AH} {r : List AV × AH}, xplan C κ ops plan tm h = some r → aplan C κ ops plan tm h = some r
  | [], _, _, _, e => e
  | (i, chk) :: rest, tm, h, r, e => by
    unfold xplan at e
    unfold aplan
    split at e
    · cases e
    · rename_i o ho
      split at e
      · cases e
      · rename_i tm' h' hs
        simp only [ho, hs]
        split at e
        · rename_i hk
          simp only [if_pos hk]
          split at e
          · rename_i ht; rw [if_pos (beqL_eq _ _ ht)]; exact xplan_le e
          · cases e
        · rename_i hk
          simp only [if_neg hk]
          exact xplan_le e
theorem xexec_le {C : CF} {π : Id} : ∀ {n : Nat} {c : ICode} {k : Nat} {tm : List AV} {h : AH} {r : Ex × Nat × List AV × AH}, xexec C π n c k tm h = some r → aexec C π n c k tm h = some r
  | 0, _, _, _, _, _, e => by simp [xexec] at e
  | n + 1, c, k, tm, h, r, e => by
    have ih := fun {c k tm h r} => @xexec_le C π n c k tm h r
    cases c
    case reg =>
      simp only [xexec] at e
      obtain ⟨x, hx, rfl⟩ := Option.map_eq_some_iff.1 e
      exact reg_inv.2 ⟨_, xplan_le hx, rfl⟩
    case seq a b =>
      simp only [xexec] at e ⊢
      simp only [aexec]
      cases h1 : xexec C π n a k tm h with
      | none => rw [h1] at e; cases e
      | some x =>
        rw [ih h1]
        rw [h1] at e
        obtain ⟨ex, k1, tm1, h2⟩ := x
        cases ex <;> first | exact ih e | exact e
    case cond =>
      simp only [xexec] at e
      split at e
      · rename_i hx; exact cond_inv.2 (.inl ⟨hx, ih e⟩)
      · rename_i hx; exact cond_inv.2 (.inr ⟨hx, ih e⟩)
      · cases e
    case block i a =>
      simp only [xexec] at e
      simp only [aexec]
      cases h1 : xexec C π n a k tm h with
      | none => rw [h1] at e; cases e
      | some x =>
        rw [ih h1]
        rw [h1] at e
        exact e
    case loop a =>
      simp only [xexec] at e
      simp only [aexec]
      cases h1 : xexec C π n a k tm h with
      | none => rw [h1] at e; cases e
      | some x =>
        rw [ih h1]
        rw [h1] at e
        obtain ⟨ex, k1, tm1, h2⟩ := x
        cases ex <;> first | exact ih e | exact e
    all_goals (simp only [xexec] at e; simp only [aexec]; exact e)
theorem xcall_le (T : FuncId → Option IFunc) : ∀ n, CF.le (xcall T n) (acall T n)
  | 0 => fun _ _ _ _ _ e => by simp [xcall] at e
  | n + 1 => fun f π args h r e => by
    simp only [xcall] at e
    simp only [acall]
    split at e
    · cases e
    · rename_i fn hf
      cases hp : fn.prim with
      | some p => simp only [hp] at e; simp only [hf, hp]; exact e
      | none =>
      simp only [hp] at e
      cases h1 : xexec (xcall T n) π n fn.body 0 (args ++ List.replicate (fn.nt - args.length) (.tup [])) h with
      | none => rw [h1] at e; cases e
      | some x =>
        have := aexec_mono (xcall_le T n) (Nat.le_refl n) (xexec_le h1)
        simp only [hf, hp, this]
        rw [h1] at e
        exact e
/-- What a run in an empty heap answers, if it holds no names. -/
def xans (T : FuncId → Option IFunc) (n : Nat) (f : FuncId) (args : List AV) (v : AV) : Bool :=
  match xcall T n f [] args (fun _ => none) with
  | some r => beqV r.1 v
  | none => false
theorem Sp_run {T : FuncId → Option IFunc} (hT : ∀ f fn, T f = some fn → closedF fn = true) {n : Nat} {f : FuncId} {args : List AV} {v : AV} (ha : closedL args = true) (hv : closed v = true) (hx : xans T n f args v = true) (h : AH) : Sp T f args h (fun r h' => r = v ∧ Up h h') := by
  intro π hf
  unfold xans at hx
  split at hx
  · rename_i r hr
    obtain ⟨h1, e1, _⟩ := acall_ren (π := π) T hT n f [] args _ r (fun _ => none) (fun x => rfl) (xcall_le T n _ _ _ _ _ hr)
    have hrv := beqV_eq _ _ hx
    rw [map_closed ha, List.nil_append, hrv, ren_closed v hv] at e1
    have d := acall_dom T n _ _ _ _ _ e1
    have j := acall_join T n _ _ _ _ _ h ⟨fun j hj => absurd rfl hj, fun j hj => hf j hj⟩ e1
    have z : AH.join (fun _ => none) h = h := by funext x; simp [AH.join]
    rw [z] at j
    refine ⟨n, _, _, j, rfl, fun x b hb => ?_⟩
    have : h1 x = none := by
      cases q : h1 x with
      | none => rfl
      | some c =>
        rcases d x (by simp only []; rw [q]; simp) with h2 | h2
        · exact absurd rfl h2
        · rw [hf x h2] at hb; cases hb
    simp only [AH.join, this]; exact hb
  · cases hx
end Go.Proofs.YtgekngfnhhdamaaM
