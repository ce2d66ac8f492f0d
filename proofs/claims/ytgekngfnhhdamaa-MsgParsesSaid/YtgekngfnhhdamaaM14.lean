/- Each of the machine's operations does what the model's does: all of them; no conditions. -/
import Derived.Test.YtgekngfnhhdamaaM13
set_option linter.unusedVariables false
set_option linter.unusedSimpArgs false
namespace Go.Proofs.YtgekngfnhhdamaaM
open Go
section
variable {P : Program} {o : Oper} {a : Act} {w w0 : World} {Q : Exit → Act → World → Prop} {μ : Mp} {id : Id} {tm : List AV} {h h' : AH} {v : AV} {C : CF}
/-- Cells stored behind a slice's address. -/
theorem slice_store (R : Rel w0 μ h w) {i : Id} {f m sz : Nat} {u : Value} {l : List AV} {us : List Value} (hv : VR μ (.slc i f m sz) u) (hu : VRs μ l us) (hl : us.length ≤ m * sz) (e : h.put i f l = some h') :
    ∃ ad cap w', u = .slice (some ad) m cap ∧ (storeCells ad us).run P w = .ok () w' ∧ Rel w0 μ h' w' := by
  simp only [VR] at hv
  obtain ⟨p, ad, cap, hp, hv, hmc, hroom, had⟩ := hv
  have hsc : l.all AV.scalar = true := by
    unfold AH.put at e
    split at e
    · split at e
      · rename_i hk; exact hk.2.2
      · cases e
    · cases e
  obtain ⟨T, hR⟩ := R.put hp hu e
  rcases had with rfl | h0
  · have hst := run_storeCells_cells (P := P) p.blk (p.off + f) us 0 w (fun j hj => by simpa using (T j hj).1) (fun j hj => by simpa using (T j hj).2) (hu.scalars hsc)
    simp only [Nat.add_zero] at hst
    exact ⟨_, cap, _, hv, hst, hR⟩
  · have hm : m = 0 := by omega
    subst hm
    have : us = [] := by simpa using hl
    subst this
    exact ⟨ad, cap, w, hv, rfl, by simpa [World.setCells] using hR⟩
theorem sim_cpy (R : Rel w0 μ h w) (ht : TR μ tm a.tmps) {t el : TypeId} {ts : List TypeId} {x y : Operand} {x' y' : Opd} {sz n : Nat} {cs : List AV} {ats : Array TypeId} (ho : o.op = .call { callee := .builtin .copy, args := #[x, y], argTypes := ats }) (hts : ats[0]? = some t)
    (hu : P.underlying t = some (.slice el)) (hs : rsize P el = some sz) (hx : ropd x = some x') (hy : ropd y = some y') (es : aslice h sz (ev tm y') = some (n, cs))
    (hd : ((ev tm x').fg = .nils ∧ v = .int .i64 0 ∧ h' = h) ∨ ∃ i f m, (ev tm x').fg = .slc i f m sz ∧ h.put i f (cs.take (min n m * sz)) = some h' ∧ v = .int .i64 (min n m : Nat)) : o.wp P a w (Post w0 μ id o a v h') Q := by
  have h1 := (ropd_sim ht hx).fg
  have h2 := ropd_sim ht hy
  obtain ⟨ii, i1, i2⟩ := rsize_info hs
  have hlen : ∃ us, VRs μ cs us ∧ us.length = n * sz ∧ (Builtin.lenOf (a.eval y)).run P w = .ok n w ∧ ∀ k, k ≤ n → (Builtin.firstCells sz k (a.eval y)).run P w = .ok (us.take (k * sz)).toArray w := by
    rcases aslice_sim R h2 es with ⟨e1, rfl, rfl⟩ | ⟨ad, cap, us, e1, e2, e3, e4, e5⟩
    · refine ⟨[], .nil, by simp, by rw [e1]; rfl, fun k hk => ?_⟩
      rw [e1]; simpa using run_firstCells_none w sz k 0 0
    · refine ⟨us, e3, e4, by rw [e1]; rfl, fun k hk => ?_⟩
      rw [e1]
      refine run_firstCells_some w sz k ad n cap (us.take (k * sz)) ?_ (fun j q hq => ?_)
      · have : k * sz ≤ n * sz := Nat.mul_le_mul_right _ hk
        simp; omega
      · rw [List.getElem?_take] at hq
        split at hq
        · exact e5 j q hq
        · cases hq
  obtain ⟨us, u1, u2, u3, u4⟩ := hlen
  have hat : ats.toList[0]? = some t := by simpa using hts
  rcases hd with ⟨ex, rfl, rfl⟩ | ⟨i, f, m, ex, ep, rfl⟩
  · rw [ex] at h1; simp only [VR] at h1
    refine post_val R (x := .int .i64 0) ?_ VR_int
    have : (Builtin.copy_ ats o.type #[.slice none 0 0, a.eval y]).run P w = .ok (.int .i64 0) w := by
      simp [Builtin.copy_, hts, run_underlying hu, sizeOf_run i1, u3, i2, u4 0 (Nat.zero_le _), goInt]
    simp [execOp, ho, resolve, invoke, builtin, h1, this]
  · rw [ex] at h1
    have hmn : min n m * sz ≤ n * sz := Nat.mul_le_mul_right _ (Nat.min_le_left _ _)
    have hmm : min n m * sz ≤ m * sz := Nat.mul_le_mul_right _ (Nat.min_le_right _ _)
    obtain ⟨ad, cap, w', e1, e2, e3⟩ := slice_store (P := P) R h1 (u1.take (min n m * sz)) (by simp; omega) ep
    refine wp_val (v := .int .i64 (min n m : Nat)) (w' := w') ?_ ⟨μ, _, Ext.refl _, MDom.refl _ _, VR_int, e3, rfl⟩
    have : (Builtin.copy_ ats o.type #[.slice (some ad) m cap, a.eval y]).run P w = .ok (.int .i64 (min n m : Nat)) w' := by
      have hmin : Nat.min n m = min n m := rfl
      simp [Builtin.copy_, hts, run_underlying hu, sizeOf_run i1, u3, i2, hmin, u4 (min n m) (Nat.min_le_left _ _), goInt, e2]
    simp [execOp, ho, resolve, invoke, builtin, e1, this]
theorem sim_clr (R : Rel w0 μ h w) (ht : TR μ tm a.tmps) {t el : TypeId} {x : Operand} {x' : Opd} {sz : Nat} {z : List AV} (ho : o.op = .call { callee := .builtin .clear, args := #[x], argTypes := #[t] })
    (hu : P.underlying t = some (.slice el)) (hs : rsize P el = some sz) (hz : rzero P el = some z) (hx : ropd x = some x')
    (hd : ((ev tm x').fg = .nils ∧ h' = h) ∨ ∃ i f m, (ev tm x').fg = .slc i f m sz ∧ h.put i f (azeros z m) = some h') : o.wp P a w (Post w0 μ id o a (.tup []) h') Q := by
  have h1 := (ropd_sim ht hx).fg
  obtain ⟨ii, i1, i2⟩ := rsize_info hs
  obtain ⟨i', zv, g1, g2, g3, g4⟩ := rzero_info hz
  rw [i1] at g1; cases g1
  rcases hd with ⟨ex, rfl⟩ | ⟨i, f, m, ex, ep⟩
  · rw [ex] at h1; simp only [VR] at h1
    refine post_val R (x := .tuple #[]) ?_ VR.undef
    simp [execOp, ho, resolve, invoke, builtin, Builtin.clear_, h1, run_underlying hu]
  · rw [ex] at h1
    have hz' := zeros_sim (g4 μ) m
    have hlen : ((Array.range (m * zv.cells.size)).map fun k => zv.cells[k % zv.cells.size]!).toList.length = m * sz := by simp [g3, i2]
    obtain ⟨ad, cap, w', e1, e2, e3⟩ := slice_store (P := P) R h1 hz' (by omega) ep
    refine wp_val (v := .tuple #[]) (w' := w') ?_ ⟨μ, _, Ext.refl _, MDom.refl _ _, VR.undef, e3, rfl⟩
    have : (Builtin.clear_ #[t] o.type #[.slice (some ad) m cap]).run P w = .ok (.tuple #[]) w' := by
      cases m with
      | zero =>
        have hw : w' = w := by
          have e2' := e2
          simp [storeCells] at e2'
          exact e2'.symm
        simp [Builtin.clear_, run_underlying hu, hw]
      | succ m =>
        have e2' : (storeCells ad (Builtin.zeroCells zv.cells (m + 1)).toList).run P w = .ok () w' := e2
        simp only [Builtin.clear_, List.getElem?_toArray, List.getElem?_cons_zero, Sem.run_bind, run_underlying hu, Result.andThen_ok, zeroValue_run i1 g2, e2', Sem.run_pure]
    simp [execOp, ho, resolve, invoke, builtin, e1, this]
/-! ### calls -/
theorem fnOk_spec {f : FuncId} (hf : fnOk P f = true) : ∃ fn, P.funcs[f]? = some fn ∧ fn.body.isSome = true ∧ (fn.name == "runtime.NumGoroutine") = false := by
  unfold fnOk at hf
  split at hf
  · rename_i fn h1
    simp only [Bool.and_eq_true, bne_iff_ne, ne_eq] at hf
    exact ⟨fn, h1, hf.1, by simpa using hf.2⟩
  · cases hf
theorem callFunc_run {f : FuncId} (hf : fnOk P f = true) (args : Array Value) (w : World) : (callFunc f args).run P w = .ok (.enter f args) w := by
  obtain ⟨fn, h1, h2, h3⟩ := fnOk_spec hf
  have h4 : fn.body ≠ none := by intro hb; rw [hb] at h2; cases h2
  have h5 : fn.name ≠ "runtime.NumGoroutine" := by simpa using h3
  simp [callFunc, h1, h4, h5]
theorem call_post {f : FuncId} {args : Array Value} {x : AV × AH} (he : (execOp a.eval o).run P w = .ok (.enter f args) w)
    (hc : Calls P f args w fun e w' => ∃ μ' v', e = .returned v' ∧ Ext μ μ' ∧ MDom id μ μ' ∧ VR μ' x.1 v' ∧ Rel w0 μ' x.2 w') : o.wp P a w (Post w0 μ id o a x.1 x.2) Q := by
  unfold Oper.wp
  rw [he, Oper.upon_enter]
  refine hc.mono fun e w' hp => ?_
  obtain ⟨μ', v', rfl, h1, h2, h3, h4⟩ := hp
  exact ⟨μ', v', h1, h2, h3, h4, rfl⟩
theorem sim_callF (hC : CSim P w0 C) (R : Rel w0 μ h w) (ht : TR μ tm a.tmps) (hf : MFree id μ) {f : FuncId} {c : Call} {ys : List Opd} {x : AV × AH} (ho : o.op = .call c) (hcal : c.callee = .value (.func f)) (hx : ropds c.args.toList = some ys)
    (e : C f id (ys.map (ev tm)) h = some x) : o.wp P a w (Post w0 μ id o a x.1 x.2) Q := by
  obtain ⟨k1, k2⟩ := hC _ _ _ _ _ e μ w (c.args.map a.eval) (by simpa using ropds_sim ht hx) R hf
  refine call_post ?_ k2
  simp [execOp, ho, resolve, hcal, Act.eval, Deferred.ofValue, invoke, callFunc_run k1]
theorem sim_callV (hC : CSim P w0 C) (R : Rel w0 μ h w) (ht : TR μ tm a.tmps) (hf : MFree id μ) {f : FuncId} {c : Call} {y : Operand} {y' : Opd} {ys : List Opd} {b d : List AV} {x : AV × AH} (ho : o.op = .call c) (hcal : c.callee = .value y) (hy : ropd y = some y') (hx : ropds c.args.toList = some ys)
    (ef : ev tm y' = .func f b d) (e : C f id (b ++ ys.map (ev tm) ++ d) h = some x) : o.wp P a w (Post w0 μ id o a x.1 x.2) Q := by
  have h1 := ropd_sim ht hy
  rw [ef] at h1; simp only [VR] at h1
  obtain ⟨b', d', hv, hb, hd⟩ := h1
  obtain ⟨k1, k2⟩ := hC _ _ _ _ _ e μ w (b' ++ c.args.map a.eval ++ d') (by simpa using (hb.append (ropds_sim ht hx)).append hd) R hf
  refine call_post ?_ k2
  simp [execOp, ho, resolve, hcal, hv, Deferred.ofValue, invoke, callFunc_run k1]
end
end Go.Proofs.YtgekngfnhhdamaaM
