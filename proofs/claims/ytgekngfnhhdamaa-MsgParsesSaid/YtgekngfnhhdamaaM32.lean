/- Runs that are worked out: what a run comes to in an empty heap, under the empty name, it comes to in any heap and under any name; no conditions. -/
import Derived.Test.YtgekngfnhhdamaaM31
set_option linter.unusedVariables false
set_option linter.unusedSimpArgs false
namespace Go.Proofs.YtgekngfnhhdamaaM
open Go
mutual
def ren (π : Id) : AV → AV
  | .ptr id o => .ptr (id ++ π) o
  | .slc id o n sz => .slc (id ++ π) o n sz
  | .slk id o n sz c x => .slk (id ++ π) o n sz c x
  | .agg l => .agg (renL π l)
  | .tup l => .tup (renL π l)
  | .iface t v => .iface t (ren π v)
  | .func f a b => .func f (renL π a) (renL π b)
  | .und => .und
  | .bool b => .bool b
  | .int k n => .int k n
  | .str s => .str s
  | .nilp => .nilp
  | .nils => .nils
  | .nilI => .nilI
  | .nilF => .nilF
def renL (π : Id) : List AV → List AV
  | [] => []
  | v :: l => ren π v :: renL π l
end
mutual
def closed : AV → Bool
  | .ptr _ _ => false
  | .slc _ _ _ _ => false
  | .slk _ _ _ _ _ _ => false
  | .agg l => closedL l
  | .tup l => closedL l
  | .iface _ v => closed v
  | .func _ a b => closedL a && closedL b
  | _ => true
def closedL : List AV → Bool
  | [] => true
  | v :: l => closed v && closedL l
end
section
variable {π : Id}
theorem renL_map : ∀ l : List AV, renL π l = l.map (ren π)
  | [] => by simp [renL]
  | v :: l => by simp [renL, renL_map l]
mutual
theorem ren_closed : ∀ v : AV, closed v = true → ren π v = v
  | .ptr _ _, h => by simp [closed] at h
  | .slc _ _ _ _, h => by simp [closed] at h
  | .slk _ _ _ _ _ _, h => by simp [closed] at h
  | .agg l, h => by simp only [closed] at h; simp only [ren, renL_closed l h]
  | .tup l, h => by simp only [closed] at h; simp only [ren, renL_closed l h]
  | .iface t v, h => by simp only [closed] at h; simp only [ren, ren_closed v h]
  | .func f a b, h => by simp only [closed, Bool.and_eq_true] at h; simp only [ren, renL_closed a h.1, renL_closed b h.2]
  | .und, _ => by simp only [ren]
  | .bool b, _ => by simp only [ren]
  | .int k n, _ => by simp only [ren]
  | .str s, _ => by simp only [ren]
  | .nilp, _ => by simp only [ren]
  | .nils, _ => by simp only [ren]
  | .nilI, _ => by simp only [ren]
  | .nilF, _ => by simp only [ren]
theorem renL_closed : ∀ l : List AV, closedL l = true → renL π l = l
  | [], _ => by simp only [renL]
  | v :: l, h => by simp only [closedL, Bool.and_eq_true] at h; simp only [renL, ren_closed v h.1, renL_closed l h.2]
end
theorem map_closed {l : List AV} (h : closedL l = true) : l.map (ren π) = l := by rw [← renL_map]; exact renL_closed l h
theorem ren_cells (v : AV) : (ren π v).cells = v.cells.map (ren π) := by cases v <;> simp [ren, AV.cells, renL_map]
theorem ren_fg (v : AV) : (ren π v).fg = ren π v.fg := by cases v <;> simp [ren, AV.fg]
theorem ren_scalar (v : AV) : (ren π v).scalar = v.scalar := by cases v <;> simp [ren, AV.scalar]
theorem all_scalar (l : List AV) : (l.map (ren π)).all AV.scalar = l.all AV.scalar := by
  induction l with
  | nil => rfl
  | cons v l ih => simp only [List.map_cons, List.all_cons, ren_scalar, ih]
def renB (π : Id) (b : Blk) : Blk := ⟨b.own, b.cells.map (ren π)⟩
/-- A heap under a name. -/
def RH (π : Id) (h h' : AH) : Prop := ∀ x, h' (x ++ π) = (h x).map (renB π)
theorem RH.set {h h' : AH} (hr : RH π h h') (i : Id) (b : Option Blk) : RH π (h.set i b) (h'.set (i ++ π) (b.map (renB π))) := fun x => by
  simp only [AH.set, List.append_cancel_right_eq]
  split
  · rfl
  · exact hr x
theorem RH.at {h h' : AH} (hr : RH π h h') {i : Id} {b : Blk} (e : h i = some b) : h' (i ++ π) = some (renB π b) := by rw [hr i, e]; rfl
theorem RH.cell {h h' : AH} (hr : RH π h h') {i : Id} {o : Nat} {v : AV} (e : h.cell i o = some v) : h'.cell (i ++ π) o = some (ren π v) := by
  unfold AH.cell at *
  split at e
  · rename_i b hb
    simp only [hr.at hb, renB, List.getElem?_map, e, Option.map_some]
  · cases e
theorem RH.cellsAt {h h' : AH} (hr : RH π h h') {i : Id} {o n : Nat} {l : List AV} (e : h.cellsAt i o n = some l) : h'.cellsAt (i ++ π) o n = some (l.map (ren π)) := by
  unfold AH.cellsAt at *
  split at e
  · rename_i b hb
    simp only [hr.at hb, renB, List.length_map]
    split at e
    · rename_i hk; rw [if_pos hk]; cases e; simp only [List.map_take, List.map_drop]
    · cases e
  · cases e
theorem putL_map : ∀ (l cs : List AV) (o : Nat), (putL cs o l).map (ren π) = putL (cs.map (ren π)) o (l.map (ren π))
  | [], _, _ => rfl
  | v :: l, cs, o => by simp only [putL, List.map_cons]; rw [putL_map l, List.map_set]
theorem RH.put {h h' h1 : AH} (hr : RH π h h') {i : Id} {o : Nat} {l : List AV} (e : h.put i o l = some h1) : ∃ h1', h'.put (i ++ π) o (l.map (ren π)) = some h1' ∧ RH π h1 h1' := by
  unfold AH.put at *
  split at e
  · rename_i b hb
    split at e
    · rename_i hk
      cases e
      simp only [hr.at hb, renB, List.length_map, all_scalar, if_pos hk]
      refine ⟨_, rfl, ?_⟩
      have := hr.set i (some ⟨true, putL b.cells o l⟩)
      simp only [Option.map_some, renB, putL_map] at this
      exact this
    · cases e
  · cases e
theorem aslice_ren {h h' : AH} (hr : RH π h h') {sz : Nat} {v : AV} {n : Nat} {l : List AV} (e : aslice h sz v = some (n, l)) : aslice h' sz (ren π v) = some (n, l.map (ren π)) := by
  unfold aslice at e ⊢
  rw [ren_fg]
  generalize v.fg = y at *
  split at e
  · cases e; simp [ren]
  · split at e
    · rename_i hk
      obtain ⟨x, hx, he⟩ := Option.map_eq_some_iff.1 e
      cases he
      simp only [ren, if_pos hk, hr.cellsAt hx, Option.map_some]
    · cases e
  · cases e
theorem aapp_ren {h h' : AH} (hr : RH π h h') {id : Id} {sz bytes n : Nat} {s : AV} {cs : List AV} {r : AV × AH} (e : aapp h id sz bytes s n cs = some r) : ∃ h1, aapp h' (id ++ π) sz bytes (ren π s) n (cs.map (ren π)) = some (ren π r.1, h1) ∧ RH π r.2 h1 := by
  unfold aapp at e ⊢
  split at e
  · rename_i hn
    rw [if_pos hn]
    split at e
    · cases e; exact ⟨h', by simp [ren], hr⟩
    · split at e <;> cases e; rename_i hk; exact ⟨h', by simp [ren, hk], hr⟩
    · split at e <;> cases e; rename_i hk; exact ⟨h', by simp [ren, hk], hr⟩
    · cases e
  · rename_i hn
    rw [if_neg hn]
    split at e
    · rename_i hs
      rw [all_scalar, if_pos hs]
      split at e
      · split at e <;> cases e
        rename_i hk
        refine ⟨_, by simp only [ren, List.length_map, if_pos hk]; rfl, ?_⟩
        exact hr.set _ _
      · rename_i id1 o m sz'
        split at e
        · rename_i b hb
          split at e
          · rename_i hk
            cases e
            refine ⟨_, by simp only [ren, List.length_map, hr.at hb, renB, if_pos hk]; rfl, ?_⟩
            have := (hr.set id1 none).set id (some ⟨true, List.take (m * sz) (List.drop o b.cells) ++ cs⟩)
            simp only [Option.map_some, Option.map_none, renB, List.map_append, List.map_take, List.map_drop] at this
            exact this
          · cases e
        · cases e
      · rename_i id1 o m sz' c xx
        split at e
        · rename_i b hb
          split at e
          · rename_i hk
            split at e
            · rename_i hc
              obtain ⟨x, hx, rfl⟩ := Option.map_eq_some_iff.1 e
              obtain ⟨h1, e1, e2⟩ := hr.put hx
              exact ⟨h1, by simp only [ren, List.length_map, hr.at hb, renB, if_pos hk, if_pos hc, e1, Option.map_some], e2⟩
            · rename_i hc
              split at e
              · rename_i hx
                cases e
                refine ⟨_, by simp only [ren, List.length_map, hr.at hb, renB, if_pos hk, if_neg hc, if_pos hx]; rfl, ?_⟩
                have := hr.set id (some ⟨true, List.take (m * sz) (List.drop o b.cells) ++ cs⟩)
                simp only [Option.map_some, Option.map_none, renB, List.map_append, List.map_take, List.map_drop] at this
                exact this
              · rename_i hx
                cases e
                refine ⟨_, by simp only [ren, List.length_map, hr.at hb, renB, if_pos hk, if_neg hc, if_neg hx]; rfl, ?_⟩
                have := (hr.set id1 none).set id (some ⟨true, List.take (m * sz) (List.drop o b.cells) ++ cs⟩)
                simp only [Option.map_some, Option.map_none, renB, List.map_append, List.map_take, List.map_drop] at this
                exact this
          · cases e
        · cases e
      · cases e
    · cases e
theorem aint_ren (v : AV) : aint (ren π v) = aint v := by cases v <;> simp [ren, aint]
theorem alen_ren (v : AV) : alen (ren π v) = alen v := by
  unfold alen
  rw [ren_fg]
  cases v.fg <;> simp [ren]
theorem abin_ren {op : BinOp} {a b v : AV} (e : abin op a b = some v) : abin op (ren π a) (ren π b) = some (ren π v) := by
  have key : closed a = true ∧ closed b = true ∧ closed v = true := by
    unfold abin at e
    repeat' (split at e)
    all_goals first
      | (cases e; done)
      | (cases e; simp [closed]; done)
      | (obtain ⟨x, hx, rfl⟩ := Option.map_eq_some_iff.1 e; simp [closed]; done)
  rw [ren_closed a key.1, ren_closed b key.2.1, ren_closed v key.2.2]; exact e
theorem aeqn_ren {k : Nat} {a b : AV} {c : Bool} (e : aeqn k a b = some c) : aeqn k (ren π a) (ren π b) = some c := by
  unfold aeqn at e
  split at e <;> first | (cases e; done) | (cases e; simp [ren, aeqn])
theorem aeqc_ren {k : Nat} {a b : AV} {c : Bool} (e : aeqc k a b = some c) : aeqc k (ren π a) (ren π b) = some c := by
  unfold aeqc at e
  split at e
  · simpa [ren, aeqc] using e
  · simpa [ren, aeqc] using e
  · simpa [ren, aeqc] using e
  · cases e
theorem aeqs_ren : ∀ {ks : List Nat} {a b : List AV} {c : Bool}, aeqs ks a b = some c → aeqs ks (a.map (ren π)) (b.map (ren π)) = some c
  | [], [], [], _, e => e
  | k :: ks, a :: l, b :: m, c, e => by
    simp only [aeqs, List.map_cons] at *
    split at e
    · rename_i x y hx hy
      rw [aeqc_ren hx, aeqs_ren hy]; exact e
    · cases e
  | [], [], _ :: _, _, e => by simp [aeqs] at e
  | [], _ :: _, _, _, e => by simp [aeqs] at e
  | _ :: _, [], _, _, e => by simp [aeqs] at e
  | _ :: _, _ :: _, [], _, e => by simp [aeqs] at e
theorem aun_ren {op : UnOp} {a v : AV} (e : aun op a = some v) : aun op (ren π a) = some (ren π v) := by
  have key : closed a = true ∧ closed v = true := by
    unfold aun at e
    repeat' (split at e)
    all_goals first
      | (cases e; done)
      | (cases e; simp [closed]; done)
      | (obtain ⟨x, hx, rfl⟩ := Option.map_eq_some_iff.1 e; simp [closed]; done)
  rw [ren_closed a key.1, ren_closed v key.2]; exact e
theorem apart_ren {sh : Sh} {cs : List AV} {o : Nat} {v : AV} (e : apart sh cs o = some v) : apart sh (cs.map (ren π)) o = some (ren π v) := by
  unfold apart at *
  cases sh with
  | none => simp only [List.getElem?_map] at *; rw [e]; rfl
  | some n =>
    simp only [List.length_map] at *
    split at e
    · rename_i hk; cases e; rw [if_pos hk]; simp only [ren, renL_map, List.map_take, List.map_drop]
    · cases e
theorem afill_ren : ∀ {ps : List (Nat × Nat × AV)} {cs l : List AV}, afill cs ps = some l → afill (cs.map (ren π)) (ps.map fun p => (p.1, p.2.1, ren π p.2.2)) = some (l.map (ren π))
  | [], cs, l, e => by cases e; rfl
  | (o, n, v) :: ps, cs, l, e => by
    simp only [afill, List.map_cons] at *
    split at e
    · rename_i hk
      rw [if_pos (by simpa only [ren_cells, List.length_map, all_scalar] using hk), ren_cells, ← putL_map]
      exact afill_ren e
    · cases e
theorem azeros_map (zero : List AV) : ∀ n, (azeros zero n).map (ren π) = azeros (zero.map (ren π)) n
  | 0 => rfl
  | n + 1 => by simp only [azeros, List.map_append, azeros_map zero n]
theorem amaxiGo_ren {big : Bool} {k : IntKind} : ∀ {l : List AV} {n : Int} {v : AV}, amaxiGo big k n l = some v → amaxiGo big k n (l.map (ren π)) = some (ren π v)
  | [], n, v, e => by cases e; simp [amaxiGo, ren]
  | a :: l, n, v, e => by
    cases a <;> simp only [amaxiGo] at e <;> first | (cases e; done) | (simp only [List.map_cons, ren, amaxiGo]; exact amaxiGo_ren e)
theorem amaxi_ren {big : Bool} {l : List AV} {v : AV} (e : amaxi big l = some v) : amaxi big (l.map (ren π)) = some (ren π v) := by
  cases l with
  | nil => cases e
  | cons a l => cases a <;> simp only [amaxi] at e <;> first | (cases e; done) | (simp only [List.map_cons, ren, amaxi]; exact amaxiGo_ren e)
theorem abytes_ren : ∀ {l : List AV} {b : List UInt8}, abytes l = some b → l.map (ren π) = l
  | [], _, _ => rfl
  | a :: l, b, e => by
    unfold abytes at e
    split at e
    · rename_i h; cases h
    · rename_i h
      obtain ⟨x, hx, _⟩ := Option.map_eq_some_iff.1 e
      cases h
      simp only [List.map_cons, ren, abytes_ren hx]
    · cases e
end
def closedO : Opd → Bool
  | .t _ => true
  | .c v => closed v
def closedB : Option Opd → Bool
  | none => true
  | some x => closedO x
def closedOp : IOp → Bool
  | .mov x => closedO x
  | .pick c a b => closedO c && closedO a && closedO b
  | .alloc zero => closedL zero
  | .box _ x => closedO x
  | .build zero parts => closedL zero && parts.all fun p => closedO p.2.2
  | .buildS _ _ zero parts => closedL zero && parts.all fun p => closedO p.2
  | .load _ a => closedO a
  | .store _ a v => closedO a && closedO v
  | .nilck x => closedO x
  | .bin _ x y => closedO x && closedO y
  | .eqn _ _ x y => closedO x && closedO y
  | .eqs _ _ x y => closedO x && closedO y
  | .un _ x => closedO x
  | .conv _ x => closedO x
  | .s2b x => closedO x
  | .b2s x => closedO x
  | .mkI _ x => closedO x
  | .mkF _ a b => a.all closedO && b.all closedO
  | .mkS _ _ zero a b => closedL zero && closedO a && closedO b
  | .slcStr x lo hi => closedO x && closedB lo && closedB hi
  | .slcS _ x lo hi => closedO x && closedB lo && closedB hi
  | .slcS3 _ x lo hi mx => closedO x && closedB lo && closedO hi && closedO mx
  | .slcA _ _ x lo hi => closedO x && closedB lo && closedB hi
  | .fld _ x => closedO x
  | .fget _ _ x => closedO x
  | .ixS _ x i => closedO x && closedO i
  | .ixA _ _ x i => closedO x && closedO i
  | .ixG _ _ _ x i => closedO x && closedO i
  | .ixStr x i => closedO x && closedO i
  | .ext x _ => closedO x
  | .lenS x => closedO x
  | .lenL x => closedO x
  | .capL x => closedO x
  | .ovl _ x y => closedO x && closedO y
  | .sstr x => closedO x
  | .maxi l => l.all closedO
  | .mini l => l.all closedO
  | .app _ _ s x => closedO s && closedO x
  | .appZ _ _ zero s n => closedL zero && closedO s && closedO n
  | .cpy _ d s => closedO d && closedO s
  | .clr _ zero s => closedL zero && closedO s
  | .callF _ args => args.all closedO
  | .callV f args => closedO f && args.all closedO
  | .bad => true
def closedC : ICode → Bool
  | .reg _ ops => ops.all fun o => closedOp o.op
  | .seq a b => closedC a && closedC b
  | .cond x a b => closedO x && closedC a && closedC b
  | .block _ a => closedC a
  | .loop a => closedC a
  | _ => true
def closedF (f : IFunc) : Bool := closedC f.body && f.res.all fun r => closedO r.1
section
variable {π : Id}
theorem ev_ren {tm : List AV} {x : Opd} (h : closedO x = true) : ev (tm.map (ren π)) x = ren π (ev tm x) := by
  cases x with
  | t i =>
    simp only [ev, List.getD_eq_getElem?_getD, List.getElem?_map]
    cases tm[i]? <;> simp [ren]
  | c v => simp only [ev, ren_closed v h]
theorem evs_ren {tm : List AV} : ∀ {l : List Opd}, l.all closedO = true → l.map (ev (tm.map (ren π))) = (l.map (ev tm)).map (ren π)
  | [], _ => rfl
  | x :: l, h => by
    simp only [List.all_cons, Bool.and_eq_true] at h
    simp only [List.map_cons, ev_ren h.1, evs_ren h.2]
theorem abnd_ren {tm : List AV} {d : Int} {x : Option Opd} (h : closedB x = true) : abnd (tm.map (ren π)) d x = abnd tm d x := by
  cases x with
  | none => rfl
  | some x => simp only [abnd, ev_ren (show closedO x = true from h), aint_ren]
theorem aboundsK_ren {tm : List AV} {n c : Nat} {lo hi : Option Opd} (h1 : closedB lo = true) (h2 : closedB hi = true) : aboundsK (tm.map (ren π)) n c lo hi = aboundsK tm n c lo hi := by
  simp only [aboundsK, abnd_ren h1, abnd_ren h2]
theorem abounds_ren {tm : List AV} {n : Nat} {lo hi : Option Opd} (h1 : closedB lo = true) (h2 : closedB hi = true) : abounds (tm.map (ren π)) n lo hi = abounds tm n lo hi := by
  simp only [abounds, abnd_ren h1, abnd_ren h2]
def CRen (π : Id) (C : CF) : Prop := ∀ f id args h r h', RH π h h' → C f id args h = some r → ∃ h1, C f (id ++ π) (args.map (ren π)) h' = some (ren π r.1, h1) ∧ RH π r.2 h1
theorem parts3_ren {tm : List AV} : ∀ {l : List (Nat × Nat × Opd)}, (l.all fun p => closedO p.2.2) = true → (l.map fun p => (p.1, p.2.1, ev (tm.map (ren π)) p.2.2)) = (l.map fun p => (p.1, p.2.1, ev tm p.2.2)).map fun p => (p.1, p.2.1, ren π p.2.2)
  | [], _ => rfl
  | x :: l, h => by
    simp only [List.all_cons, Bool.and_eq_true] at h
    simp only [List.map_cons, ev_ren h.1, parts3_ren h.2]
theorem parts2_ren {tm : List AV} {sz : Nat} : ∀ {l : List (Nat × Opd)}, (l.all fun p => closedO p.2) = true → (l.map fun p => (p.1 * sz, sz, ev (tm.map (ren π)) p.2)) = (l.map fun p => (p.1 * sz, sz, ev tm p.2)).map fun p => (p.1, p.2.1, ren π p.2.2)
  | [], _ => rfl
  | x :: l, h => by
    simp only [List.all_cons, Bool.and_eq_true] at h
    simp only [List.map_cons, ev_ren h.1, parts2_ren h.2]
end
end Go.Proofs.YtgekngfnhhdamaaM
