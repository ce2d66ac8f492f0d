/- Each of the machine's operations does what the model's does: what is built, appended, called; no conditions. -/
import Derived.Test.YtgekngfnhhdamaaM10
set_option linter.unusedVariables false
set_option linter.unusedSimpArgs false
namespace Go.Proofs.YtgekngfnhhdamaaM
open Go
section
variable {P : Program} {o : Oper} {a : Act} {w w0 : World} {Q : Exit → Act → World → Prop} {μ : Mp} {id : Id} {tm : List AV} {h h' : AH} {v : AV}
/-! ### what is built -/
theorem fold_putL (off : Nat) : ∀ (l : List Value) (k : Nat) (C : Array Value), ((l.zipIdx k).foldl (fun cs p => cs.setIfInBounds (off + p.2) p.1) C).toList = putL C.toList (off + k) l
  | [], _, _ => rfl
  | v :: l, k, C => by
    rw [List.zipIdx_cons, List.foldl_cons, fold_putL off l (k + 1)]
    simp [putL, Nat.add_assoc]
/-- Parts, told and meant. -/
def PR (μ : Mp) (place : Nat → Option (Nat × Nat)) : List (Nat × Nat × AV) → List (Nat × Value) → Prop
  | [], l => l = []
  | (o, n, v) :: ps, l => ∃ i u us, l = (i, u) :: us ∧ place i = some (o, n) ∧ VR μ v u ∧ PR μ place ps us
theorem fill_sim {place : Nat → Option (Nat × Nat)} : ∀ {ps : List (Nat × Nat × AV)} {us : List (Nat × Value)} {cs l : List AV} {C : Array Value}, PR μ place ps us → afill cs ps = some l → VRs μ cs C.toList → ∃ L, Instr.fill place C us = some L ∧ VRs μ l L.toList
  | [], us, cs, l, C, hp, e, hv => by simp only [PR] at hp; subst hp; cases e; exact ⟨C, rfl, hv⟩
  | (o, n, v) :: ps, us, cs, l, C, hp, e, hv => by
    simp only [PR] at hp
    obtain ⟨i, u, us, rfl, h1, h2, h3⟩ := hp
    unfold afill at e
    split at e
    case isFalse => cases e
    rename_i hk
    have hc := h2.cells hk.2.2
    have hlen := hc.length
    have hcl := hv.length
    have k1 : u.cells.size = n := by rw [← hk.1, hlen]; simp
    have k2 : ¬ (u.cells.size ≠ n ∨ o + u.cells.size > C.size) := by simp at hcl; omega
    unfold Instr.fill
    simp only [h1]
    have k2' : (decide (u.cells.size ≠ n) || decide (o + u.cells.size > C.size)) = false := by simpa using k2
    rw [if_neg (by simpa using k2')]
    refine fill_sim h3 e ?_
    have : (Array.foldl (fun cs (p : Value × Nat) => cs.setIfInBounds (o + p.2) p.1) C u.cells.zipIdx).toList = putL C.toList o u.cells.toList := by
      rw [← Array.foldl_toList, Array.toList_zipIdx, fold_putL]; rfl
    rw [this]
    obtain ⟨ws, w1, w2, _⟩ := VRs.putL o hv hc
    rw [← w1]; exact w2
theorem afill_scalar : ∀ {ps : List (Nat × Nat × AV)} {cs l : List AV}, afill cs ps = some l → l.length = cs.length
  | [], _, _, e => by cases e; rfl
  | (o, n, v) :: ps, cs, l, e => by
    unfold afill at e
    split at e
    · rw [afill_scalar e, putL_length]
    · cases e
theorem partsF_sim (ht : TR μ tm a.tmps) {fs : Array Field} {place : Nat → Option (Nat × Nat)} (hpl : ∀ (i : Nat) f n, fs[i]? = some f → rsize P f.type = some n → place i = some (f.offset, n)) : ∀ {l : List (Nat × Operand)} {r : List (Nat × Nat × Opd)}, rpartsF P fs l = some r →
    PR μ place (r.map fun p => (p.1, p.2.1, ev tm p.2.2)) (l.map fun p => (p.1, a.eval p.2))
  | [], r, e => by cases e; simp [PR]
  | (i, x) :: l, r, e => by
    unfold rpartsF at e
    split at e
    · rename_i f y r' h1 h2 h3
      obtain ⟨n, hn, rfl⟩ := Option.map_eq_some_iff.1 e
      simp only [List.map_cons, PR]
      exact ⟨i, _, _, rfl, hpl _ _ _ h1 hn, ropd_sim ht h2, partsF_sim ht hpl h3⟩
    · cases e
theorem partsA_sim (ht : TR μ tm a.tmps) {sz : Nat} : ∀ {l : List (Nat × Operand)} {r : List (Nat × Nat × Opd)}, rpartsA sz l = some r →
    PR μ (fun i => some (i * sz, sz)) (r.map fun p => (p.1, p.2.1, ev tm p.2.2)) (l.map fun p => (p.1, a.eval p.2))
  | [], r, e => by cases e; simp [PR]
  | (i, x) :: l, r, e => by
    unfold rpartsA at e
    split at e
    · rename_i y r' h1 h2
      cases e
      simp only [List.map_cons, PR]
      exact ⟨i, _, _, rfl, rfl, ropd_sim ht h1, partsA_sim ht h2⟩
    · cases e
theorem partsS_sim (ht : TR μ tm a.tmps) {sz : Nat} : ∀ {l : List (Nat × Operand)} {r : List (Nat × Opd)}, rpartsS l = some r →
    PR μ (fun i => some (i * sz, sz)) (r.map fun p => (p.1 * sz, sz, ev tm p.2)) (l.map fun p => (p.1, a.eval p.2))
  | [], r, e => by cases e; simp [PR]
  | (i, x) :: l, r, e => by
    unfold rpartsS at e
    split at e
    · rename_i y r' h1 h2
      cases e
      simp only [List.map_cons, PR]
      exact ⟨i, _, _, rfl, rfl, ropd_sim ht h1, partsS_sim ht h2⟩
    · cases e
theorem zeroValue_run {t : TypeId} {i : TypeInfo} {z : Value} (hi : P.info? t = some i) (hz : i.zero = some z) (w : World) : (zeroValue t).run P w = .ok z w := by simp [zeroValue, typeInfo, hi, hz]
theorem sizes_run {fs : Array Field} (hs : sizesThere P fs.toList = true) (w : World) : ∃ L : Array (Nat × Nat), (fs.mapM fun f => do pure (f.offset, ← sizeOf f.type) : Sem (Array (Nat × Nat))).run P w = .ok L w ∧ ∀ (i : Nat) f n, fs[i]? = some f → rsize P f.type = some n → L[i]? = some (f.offset, n) := by
  have key : ∀ l : List Field, sizesThere P l = true → (l.mapM fun f => do pure (f.offset, ← sizeOf f.type) : Sem (List (Nat × Nat))).run P w = .ok (l.map fun f => (f.offset, (rsize P f.type).getD 0)) w := by
    intro l
    induction l with
    | nil => intro _; simp
    | cons f l ih =>
      intro h
      simp only [sizesThere, List.all_cons, Bool.and_eq_true] at h
      obtain ⟨i, hi⟩ := Option.isSome_iff_exists.1 h.1
      simp only [List.mapM_cons, Sem.run_bind, sizeOf, typeInfo, run_program, Result.andThen_ok, hi, Sem.run_pure]
      have := ih h.2
      simp only [sizeOf, typeInfo] at this
      rw [this]
      simp [rsize, hi]
  refine ⟨(fs.toList.map fun f => (f.offset, (rsize P f.type).getD 0)).toArray, ?_, fun i f n h1 h2 => ?_⟩
  · rw [Array.mapM_eq_mapM_toList]
    change ((fs.toList.mapM fun f => do pure (f.offset, ← sizeOf f.type) : Sem (List (Nat × Nat))) >>= fun l => pure l.toArray : Sem (Array (Nat × Nat))).run P w = _
    rw [Sem.run_bind, key _ hs]
    rfl
  · simp [h1, h2]
theorem sim_buildF (R : Rel w0 μ h w) (ht : TR μ tm a.tmps) {t : TypeId} {parts : Array (Nat × Operand)} {z l : List AV} {fs : Array Field} {r : List (Nat × Nat × Opd)} (ho : o.op = .build t parts) (hz : rzero P t = some z) (hu : P.underlying t = some (.struct fs)) (hs : sizesThere P fs.toList = true)
    (hr : rpartsF P fs parts.toList = some r) (e : afill z (r.map fun p => (p.1, p.2.1, ev tm p.2.2)) = some l) : o.wp P a w (Post w0 μ id o a (.agg l) h) Q := by
  obtain ⟨i, zv, h1, h2, h3, h4⟩ := rzero_info hz
  obtain ⟨L, l1, l2⟩ := sizes_run hs w
  obtain ⟨C, c1, c2⟩ := fill_sim (partsF_sim (μ := μ) ht l2 hr) e (h4 μ)
  refine post_val R (x := .agg C) ?_ (by simp only [VR]; exact ⟨C, rfl, c2⟩)
  have c1' : Instr.fill (fun x => L[x]?) zv.cells (parts.map fun p => (p.1, a.eval p.2)).toList = some C := by simpa using c1
  simp only [execOp, ho, Instr.build, Sem.run_bind, zeroValue_run h1 h2, Result.andThen_ok, run_underlying hu, l1]
  rw [c1']
  rfl
theorem sim_buildA (R : Rel w0 μ h w) (ht : TR μ tm a.tmps) {t e : TypeId} {n sz : Nat} {parts : Array (Nat × Operand)} {z l : List AV} {r : List (Nat × Nat × Opd)} (ho : o.op = .build t parts) (hz : rzero P t = some z) (hu : P.underlying t = some (.array n e)) (hs : rsize P e = some sz)
    (hr : rpartsA sz parts.toList = some r) (e : afill z (r.map fun p => (p.1, p.2.1, ev tm p.2.2)) = some l) : o.wp P a w (Post w0 μ id o a (.agg l) h) Q := by
  obtain ⟨i, zv, h1, h2, h3, h4⟩ := rzero_info hz
  obtain ⟨ii, i1, i2⟩ := rsize_info hs
  obtain ⟨C, c1, c2⟩ := fill_sim (partsA_sim (μ := μ) ht hr) e (h4 μ)
  refine post_val R (x := .agg C) ?_ (by simp only [VR]; exact ⟨C, rfl, c2⟩)
  have c1' : Instr.fill (fun i => some (i * ii.size, ii.size)) zv.cells (parts.map fun p => (p.1, a.eval p.2)).toList = some C := by subst i2; simpa using c1
  simp only [execOp, ho, Instr.build, Sem.run_bind, zeroValue_run h1 h2, Result.andThen_ok, run_underlying hu, sizeOf, typeInfo, run_program, i1, Sem.run_pure]
  rw [c1']
  rfl
/-! ### rows of zeros -/
theorem zeros_list {α : Type} [Inhabited α] (Z : Array α) (n : Nat) : ((Array.range ((n + 1) * Z.size)).map fun i => Z[i % Z.size]!).toList = Z.toList ++ ((Array.range (n * Z.size)).map fun i => Z[i % Z.size]!).toList := by
  apply List.ext_getElem?
  intro j
  have hm : (n + 1) * Z.size = n * Z.size + Z.size := by rw [Nat.add_mul, Nat.one_mul]
  rw [List.getElem?_append]
  simp only [Array.getElem?_toList, Array.getElem?_map, Array.length_toList]
  by_cases hj : j < Z.size
  · have hj' : j < (n + 1) * Z.size := by omega
    rw [if_pos hj]
    simp [hj', Nat.mod_eq_of_lt hj, hj]
  · rw [if_neg hj]
    by_cases hk : j < (n + 1) * Z.size
    · have hk' : j - Z.size < n * Z.size := by omega
      simp [hk, hk', Nat.mod_eq_sub_mod (Nat.le_of_not_lt hj)]
    · have hk' : ¬ (j - Z.size < n * Z.size) := by omega
      simp [hk, hk']
theorem zeros_sim {z : List AV} {Z : Array Value} (hv : VRs μ z Z.toList) : ∀ n, VRs μ (azeros z n) ((Array.range (n * Z.size)).map fun i => Z[i % Z.size]!).toList
  | 0 => by simpa [azeros] using VRs.nil
  | n + 1 => by rw [zeros_list]; exact hv.append (zeros_sim hv n)
theorem zeros_len {z : List AV} : ∀ n, (azeros z n).length = n * z.length
  | 0 => by simp [azeros]
  | n + 1 => by simp [azeros, zeros_len n, Nat.add_mul]; omega
theorem zeros_all {z : List AV} (hz : z.all AV.scalar = true) : ∀ n, (azeros z n).all AV.scalar = true
  | 0 => rfl
  | n + 1 => by simp only [azeros, List.all_append, zeros_all hz n, hz, Bool.and_self]
theorem sim_buildS (R : Rel w0 μ h w) (ht : TR μ tm a.tmps) (hf : MFree id μ) {t el : TypeId} {n sz : Nat} {parts : Array (Nat × Operand)} {z l : List AV} {r : List (Nat × Opd)} (ho : o.op = .buildSlice t n parts) (hu : P.underlying t = some (.slice el)) (hs : rsize P el = some sz) (hz : rzero P el = some z)
    (hr : rpartsS parts.toList = some r) (hn : n * sz ≤ 2 ^ 24) (e : afill (azeros z n) (r.map fun p => (p.1 * sz, sz, ev tm p.2)) = some l) (hsc : l.all AV.scalar = true) : o.wp P a w (Post w0 μ id o a (.slc id 0 n sz) (h.set id (some ⟨true, l⟩))) Q := by
  obtain ⟨i, zv, h1, h2, h3, h4⟩ := rzero_info hz
  obtain ⟨ii, i1, i2⟩ := rsize_info hs
  rw [h1] at i1; cases i1
  subst i2
  have hzz : ∃ Z : Array Value, ((n * i.size = 0 ∧ Z = #[]) ∨ (n * i.size ≠ 0 ∧ Z = zv.cells)) ∧ VRs μ (azeros z n) ((Array.range (n * i.size)).map fun k => Z[k % Z.size]!).toList := by
    by_cases hk : n * i.size = 0
    · refine ⟨#[], .inl ⟨hk, rfl⟩, ?_⟩
      have : azeros z n = [] := List.eq_nil_of_length_eq_zero (by rw [zeros_len, (h4 μ).length]; simp; rw [h3]; simpa using hk)
      rw [this, hk]; simpa using VRs.nil
    · refine ⟨zv.cells, .inr ⟨hk, rfl⟩, ?_⟩
      rw [← h3]; exact zeros_sim (h4 μ) n
  obtain ⟨Z, z1, z2⟩ := hzz
  obtain ⟨C, c1, c2⟩ := fill_sim (partsS_sim (μ := μ) ht hr) e z2
  obtain ⟨μ', e1, e2, e3, e4⟩ := R.fresh hf C el c2
  have c1' : Instr.fill (fun k => some (k * i.size, i.size)) ((Array.range (n * i.size)).map fun k => Z[k % Z.size]!) (parts.map fun p => (p.1, a.eval p.2)).toList = some C := by simpa using c1
  refine wp_val (v := .slice (some ⟨w.heap.size, 0, none⟩) n n) ?_ ⟨μ', _, e1, e2, ?_, e3, rfl⟩
  · have hn' : ¬ (n * i.size > 2 ^ 24) := by omega
    have hso : (sizeOf el).run P w = .ok i.size w := by simp [sizeOf, typeInfo, h1]
    rcases z1 with ⟨hk, rfl⟩ | ⟨hk, rfl⟩
    · simp only [execOp, ho, Instr.buildSlice, Sem.run_bind, run_underlying hu, Result.andThen_ok, hso, if_neg hn', if_pos hk, Sem.run_pure]
      rw [c1']
      simp [newRow]
    · simp only [execOp, ho, Instr.buildSlice, Sem.run_bind, run_underlying hu, Result.andThen_ok, hso, if_neg hn', if_neg hk, Sem.run_pure, zeroValue_run h1 h2]
      rw [c1']
      simp [newRow]
  · simp only [VR]
    refine ⟨_, _, _, e4, rfl, Nat.le_refl _, ?_, .inl (by simp [at_])⟩
    have := c2.length
    have h5 := afill_scalar e
    rw [zeros_len] at h5
    have h6 := (h4 μ).length
    simp at this h6
    simp only [Nat.zero_add]
    rw [← this, h5, h6, h3]
    exact Nat.le_refl _
end
end Go.Proofs.YtgekngfnhhdamaaM
