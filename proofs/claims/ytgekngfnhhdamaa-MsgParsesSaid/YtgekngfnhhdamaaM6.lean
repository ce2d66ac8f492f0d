/- Each of the machine's operations does what the model's does; no conditions. -/
import Derived.Test.YtgekngfnhhdamaaM5
set_option linter.unusedVariables false
set_option linter.unusedSimpArgs false
namespace Go.Proofs.YtgekngfnhhdamaaM
open Go

/-! ### operands -/
structure TR (μ : Mp) (tm : List AV) (ts : Array Value) : Prop where
  len : tm.length ≤ ts.size
  get : ∀ i, VR μ (tm.getD i .und) (ts.getD i undef)
theorem TR.ext {μ μ' : Mp} {tm : List AV} {ts : Array Value} (h : TR μ tm ts) (e : Ext μ μ') : TR μ' tm ts := ⟨h.len, fun i => (h.get i).ext e⟩
theorem TR.put {μ : Mp} {tm : List AV} {a : Act} (h : TR μ tm a.tmps) {x : AV} {v : Value} (hv : VR μ x v) (d : Option Nat) : TR μ (putT tm d x) (a.put d v).tmps := by
  cases d with
  | none => exact h
  | some d =>
    refine ⟨by simpa [putT, Act.put] using h.len, fun i => ?_⟩
    simp only [putT, Act.put]
    by_cases hi : i = d
    · subst hi
      by_cases hl : i < tm.length
      · have : i < a.tmps.size := Nat.lt_of_lt_of_le hl h.len
        simp [List.getD_eq_getElem?_getD, Array.getD_eq_getD_getElem?, hl, this]; exact hv
      · simp only [List.getD_eq_getElem?_getD, List.getElem?_set, if_pos rfl, if_neg hl]; exact VR.und _
    · have := h.get i
      simp only [List.getD_eq_getElem?_getD, Array.getD_eq_getD_getElem?] at this ⊢
      rw [List.getElem?_set_ne (fun e => hi e.symm), Array.getElem?_setIfInBounds_ne (fun e => hi e.symm)]; exact this
section
variable {P : Program} {μ : Mp} {tm : List AV} {a : Act}
theorem ofSc_sim {v : Value} {x : AV} (h : ofSc v = some x) : VR μ x v := by
  unfold ofSc at h
  split at h <;> cases h <;> simp [VR]
theorem ofScs_sim : ∀ {l : List Value} {xs : List AV}, ofScs l = some xs → VRs μ xs l
  | [], _, h => by cases h; exact .nil
  | v :: l, xs, h => by
    unfold ofScs at h
    split at h
    · rename_i h1 h2; cases h; exact .cons (ofSc_sim h1) (ofScs_sim h2)
    · cases h
theorem ofVal_sim {v : Value} {x : AV} (h : ofVal v = some x) : VR μ x v := by
  unfold ofVal at h
  split at h
  · obtain ⟨y, hy, rfl⟩ := Option.map_eq_some_iff.1 h
    simp only [VR]; exact ⟨_, rfl, ofScs_sim hy⟩
  · exact ofSc_sim h
theorem ropd_sim (ht : TR μ tm a.tmps) {x : Operand} {y : Opd} (h : ropd x = some y) : VR μ (ev tm y) (a.eval x) := by
  unfold ropd at h
  split at h
  · cases h; exact ht.get _
  · obtain ⟨z, hz, rfl⟩ := Option.map_eq_some_iff.1 h; exact ofVal_sim hz
  · cases h; simp only [ev, VR, Act.eval]; exact ⟨_, _, rfl, .nil, .nil⟩
  · cases h
theorem ropds_sim (ht : TR μ tm a.tmps) : ∀ {l : List Operand} {ys : List Opd}, ropds l = some ys → VRs μ (ys.map (ev tm)) (l.map a.eval)
  | [], _, h => by cases h; exact .nil
  | x :: l, ys, h => by
    unfold ropds at h
    split at h
    · rename_i h1 h2; cases h; exact .cons (ropd_sim ht h1) (ropds_sim ht h2)
    · cases h
end
/-! ### what an operation comes to -/
section
variable {P : Program} {o : Oper} {a : Act} {w w' : World} {K : Act → World → Prop} {Q : Exit → Act → World → Prop}
theorem wp_val {v : Value} (h : (execOp a.eval o).run P w = .ok (.value v) w') (hk : K (a.put o.dst v) w') : o.wp P a w K Q := by
  unfold Oper.wp; rw [h]; exact hk
theorem wp_skp (h : (execOp a.eval o).run P w = .ok .skip w') (hk : K (a.put o.dst undef) w') : o.wp P a w K Q := by
  unfold Oper.wp; rw [h]; exact hk
end
def Post (w0 : World) (μ : Mp) (id : Id) (o : Oper) (a : Act) (v : AV) (h : AH) (a' : Act) (w' : World) : Prop :=
  ∃ μ' v', Ext μ μ' ∧ MDom id μ μ' ∧ VR μ' v v' ∧ Rel w0 μ' h w' ∧ a' = a.put o.dst v'
/-- What calls come to in the model. -/
def CSim (P : Program) (w0 : World) (C : CF) : Prop :=
  ∀ f id args h r, C f id args h = some r → ∀ μ w (args' : Array Value), VRs μ args args'.toList → Rel w0 μ h w → MFree id μ →
    fnOk P f = true ∧ Calls P f args' w fun e w' => ∃ μ' v', e = .returned v' ∧ Ext μ μ' ∧ MDom id μ μ' ∧ VR μ' r.1 v' ∧ Rel w0 μ' r.2 w'
section
variable {P : Program} {o : Oper} {a : Act} {w w0 : World} {Q : Exit → Act → World → Prop} {μ : Mp} {id : Id} {tm : List AV} {h h' : AH} {v : AV}
/-- It only computes. -/
theorem post_val (R : Rel w0 μ h w) {x : Value} (e : (execOp a.eval o).run P w = .ok (.value x) w) (hv : VR μ v x) : o.wp P a w (Post w0 μ id o a v h) Q :=
  wp_val e ⟨μ, x, Ext.refl _, MDom.refl _ _, hv, R, rfl⟩

theorem sim_mov (R : Rel w0 μ h w) (ht : TR μ tm a.tmps) {x : Operand} {y : Opd} (ho : o.op = .move x ∨ o.op = .assign x) (hx : ropd x = some y) : o.wp P a w (Post w0 μ id o a (ev tm y) h) Q :=
  post_val R (by rcases ho with ho | ho <;> simp [execOp, ho]) (ropd_sim ht hx)
theorem sim_pick (R : Rel w0 μ h w) (ht : TR μ tm a.tmps) {c x y : Operand} {c' x' y' : Opd} {t : Bool} (ho : o.op = .pick c x y) (hc : ropd c = some c') (hx : ropd x = some x') (hy : ropd y = some y') (hev : ev tm c' = .bool t) :
    o.wp P a w (Post w0 μ id o a (if t then ev tm x' else ev tm y') h) Q := by
  have h1 := ropd_sim ht hc
  rw [hev] at h1
  simp only [VR] at h1
  refine post_val R (x := if t then a.eval x else a.eval y) (by simp [execOp, ho, h1, asBool]) ?_
  cases t
  · exact ropd_sim ht hy
  · exact ropd_sim ht hx
theorem rsize_info {t : TypeId} {n : Nat} (hs : rsize P t = some n) : ∃ i, P.info? t = some i ∧ i.size = n := by
  unfold rsize at hs
  obtain ⟨i, h1, h2⟩ := Option.map_eq_some_iff.1 hs
  exact ⟨i, h1, h2⟩
theorem rzero_info {t : TypeId} {l : List AV} (hs : rzero P t = some l) : ∃ i z, P.info? t = some i ∧ i.zero = some z ∧ z.cells.size = i.size ∧ ∀ μ, VRs μ l z.cells.toList := by
  unfold rzero at hs
  split at hs
  · rename_i i hi
    split at hs
    · rename_i z hz
      split at hs
      · rename_i hn; exact ⟨i, z, hi, hz, hn, fun μ => ofScs_sim hs⟩
      · cases hs
    · cases hs
  · cases hs
/-- A new block, whole. -/
theorem Rel.fresh (R : Rel w0 μ h w) (hf : MFree id μ) (cs : Array Value) (e : TypeId) {cells : List AV} (hv : VRs μ cells cs.toList) :
    ∃ μ', Ext μ μ' ∧ MDom id μ μ' ∧ Rel w0 μ' (h.set id (some ⟨true, cells⟩)) (w.alloc (.cells cs e)) ∧ μ' id = some ⟨w.heap.size, 0, cs.size⟩ := by
  have hi := hf id (List.suffix_refl _)
  refine ⟨μ.set id ⟨w.heap.size, 0, cs.size⟩, Mp.set_ext hi, MDom.set _ _ _, R.alloc hi cs e (0, 0) (.inl rfl) hv (by simp) (fun j v hj => by simpa using hj), by simp [Mp.set]⟩
theorem sim_alloc (R : Rel w0 μ h w) (hf : MFree id μ) {t : TypeId} {z : List AV} (ho : o.op = .alloc t) (hz : rzero P t = some z) :
    o.wp P a w (Post w0 μ id o a (.ptr id 0) (h.set id (some ⟨true, z⟩))) Q := by
  obtain ⟨i, zv, h1, h2, h3, h4⟩ := rzero_info hz
  obtain ⟨μ', e1, e2, e3, e4⟩ := R.fresh hf zv.cells t (h4 μ)
  refine wp_val (v := .pointer (some ⟨w.heap.size, 0, none⟩)) ?_ ⟨μ', _, e1, e2, ?_, e3, rfl⟩
  · simp [execOp, ho, Instr.alloc, zeroValue, typeInfo, h1, h2, newVar, newRow]
  · simp only [VR]; exact ⟨_, e4, by simp [at_]⟩
theorem sim_box (R : Rel w0 μ h w) (ht : TR μ tm a.tmps) (hf : MFree id μ) {t : TypeId} {x : Operand} {y : Opd} (ho : o.op = .box t x) (hx : ropd x = some y) (hs : (ev tm y).cells.all AV.scalar = true) :
    o.wp P a w (Post w0 μ id o a (.ptr id 0) (h.set id (some ⟨true, (ev tm y).cells⟩))) Q := by
  obtain ⟨μ', e1, e2, e3, e4⟩ := R.fresh hf (a.eval x).cells t ((ropd_sim ht hx).cells hs)
  refine wp_val (v := .pointer (some ⟨w.heap.size, 0, none⟩)) ?_ ⟨μ', _, e1, e2, ?_, e3, rfl⟩
  · simp [execOp, ho, Instr.box, newVar, newRow]
  · simp only [VR]; exact ⟨_, e4, by simp [at_]⟩
theorem VRs.range {vs : List Value} {p : Pl} {b : Blk} {o n : Nat} {l : List AV} (L : Lies w0 μ w p b) (e : (if o + n ≤ b.cells.length then some ((b.cells.drop o).take n) else none) = some l) :
    ∃ us, VRs μ l us ∧ us.length = n ∧ w.rangeAt p.blk (p.off + o) us := by
  split at e
  case isFalse => cases e
  rename_i hn
  cases e
  obtain ⟨vs, k1, k2⟩ := L.vs
  have hl := k1.length
  refine ⟨(vs.drop o).take n, (k1.drop o).take n, by simp; omega, fun j v hv => ?_⟩
  rw [List.getElem?_take] at hv
  split at hv
  · rw [List.getElem?_drop] at hv
    have := k2 _ _ hv
    rwa [← Nat.add_assoc] at this
  · cases hv
theorem cellsAt_sim (R : Rel w0 μ h w) {i : Id} {p : Pl} {o n : Nat} {l : List AV} (hp : μ i = some p) (e : h.cellsAt i o n = some l) : ∃ us, VRs μ l us ∧ us.length = n ∧ w.rangeAt p.blk (p.off + o) us := by
  unfold AH.cellsAt at e
  split at e
  · rename_i b hb; exact VRs.range (vs := []) (R.blk _ _ _ hp hb) e
  · cases e
theorem cell_sim (R : Rel w0 μ h w) {i : Id} {p : Pl} {o : Nat} {x : AV} (hp : μ i = some p) (e : h.cell i o = some x) : ∃ u, VR μ x u ∧ w.cell? ⟨p.blk, p.off + o, none⟩ = some u := by
  unfold AH.cell at e
  split at e
  · rename_i b hb
    obtain ⟨vs, k1, k2⟩ := (R.blk _ _ _ hp hb).vs
    obtain ⟨u, h1, h2⟩ := k1.get e
    exact ⟨u, h2, k2 _ _ h1⟩
  · cases e
theorem rsh_none {t : TypeId} (hs : rsh P t = some none) : ∃ d, P.underlying t = some d ∧ d.isRow = false := by
  unfold rsh at hs
  split at hs
  · rename_i d hd
    refine ⟨d, hd, ?_⟩
    cases hr : d.isRow with
    | false => rfl
    | true => rw [hr] at hs; simp at hs
  · cases hs
theorem rsh_some {t : TypeId} {n : Nat} (hs : rsh P t = some (some n)) : ∃ d, P.underlying t = some d ∧ d.isRow = true ∧ rsize P t = some n := by
  unfold rsh at hs
  split at hs
  · rename_i d hd
    split at hs
    · rename_i hr; exact ⟨d, hd, hr, by simpa using hs⟩
    · cases hs
  · cases hs
theorem isAgg_run {t : TypeId} {d : TypeDesc} (hd : P.underlying t = some d) (w : World) : (isAgg t).run P w = .ok d.isRow w := by
  unfold isAgg
  rw [Sem.run_bind, run_underlying hd w]
  cases d <;> rfl
theorem sim_load1 (R : Rel w0 μ h w) (ht : TR μ tm a.tmps) {t : TypeId} {x : Operand} {y : Opd} {i : Id} {f : Nat} (ho : o.op = .load t x) (hs : rsh P t = some none) (hx : ropd x = some y) (hy : ev tm y = .ptr i f) (e : h.cell i f = some v) :
    o.wp P a w (Post w0 μ id o a v h) Q := by
  have h1 := ropd_sim ht hx
  rw [hy] at h1
  simp only [VR] at h1
  obtain ⟨p, hp, hv⟩ := h1
  obtain ⟨u, k1, k2⟩ := cell_sim R hp e
  obtain ⟨d, d1, d2⟩ := rsh_none hs
  refine post_val R (x := u) ?_ k1
  simp [execOp, ho, hv, Instr.loadAt, Instr.sureAddr, loadVar, isAgg_run d1, d2, run_load, at_, k2]
theorem sim_loadn (R : Rel w0 μ h w) (ht : TR μ tm a.tmps) {t : TypeId} {x : Operand} {y : Opd} {i : Id} {f n : Nat} {l : List AV} (ho : o.op = .load t x) (hs : rsh P t = some (some n)) (hx : ropd x = some y) (hy : ev tm y = .ptr i f) (e : h.cellsAt i f n = some l) :
    o.wp P a w (Post w0 μ id o a (.agg l) h) Q := by
  have h1 := ropd_sim ht hx
  rw [hy] at h1
  simp only [VR] at h1
  obtain ⟨p, hp, hv⟩ := h1
  obtain ⟨us, k1, k2, k3⟩ := cellsAt_sim R hp e
  obtain ⟨d, d1, d2, d3⟩ := rsh_some hs
  refine post_val R (x := .agg us.toArray) ?_ (by simp only [VR]; exact ⟨_, rfl, by simpa using k1⟩)
  have := run_loadAt_mid (P := P) w p.blk (p.off + f) t us d k3 d1 d2 (by rw [k2]; exact d3)
  simp [execOp, ho, hv, at_, this]
theorem sim_store (R : Rel w0 μ h w) (ht : TR μ tm a.tmps) {t : TypeId} {x z : Operand} {y y' : Opd} {i : Id} {f n : Nat} (ho : o.op = .store t x z) (hs : rsize P t = some n) (hx : ropd x = some y) (hz : ropd z = some y') (hy : ev tm y = .ptr i f)
    (hn : (ev tm y').cells.length = n) (e : h.put i f (ev tm y').cells = some h') : o.wp P a w (Post w0 μ id o a (.tup []) h') Q := by
  have h1 := ropd_sim ht hx
  rw [hy] at h1
  simp only [VR] at h1
  obtain ⟨p, hp, hv⟩ := h1
  have hsc : (ev tm y').cells.all AV.scalar = true := by
    unfold AH.put at e
    split at e
    · split at e
      · rename_i hk; exact hk.2.2
      · cases e
    · cases e
  have hc := (ropd_sim ht hz).cells hsc
  obtain ⟨t1, t2⟩ := R.put hp hc e
  have hsz : (a.eval z).cells.size = n := by rw [← hn, hc.length]; simp
  obtain ⟨ii, i1, i2⟩ := rsize_info hs
  have hst := run_storeCells_cells (P := P) p.blk (p.off + f) (a.eval z).cells.toList 0 w (fun j hj => by simpa using (t1 j (by simpa using hj)).1) (fun j hj => by simpa using (t1 j (by simpa using hj)).2) (hc.scalars hsc)
  simp only [Nat.add_zero] at hst
  refine wp_skp (w' := w.setCells p.blk (p.off + f) (a.eval z).cells.toList) ?_ ⟨μ, undef, Ext.refl _, MDom.refl _ _, VR.undef, t2, rfl⟩
  simp [execOp, ho, hv, Instr.storeAt, Instr.sureAddr, storeVar, sizeOf, typeInfo, i1, i2, hsz, at_, hst]
end
end Go.Proofs.YtgekngfnhhdamaaM
