/- Each of the machine's operations does what the model's does: made slices, appends, copies, calls; no conditions. -/
import Derived.Test.YtgekngfnhhdamaaM11
set_option linter.unusedVariables false
set_option linter.unusedSimpArgs false
namespace Go.Proofs.YtgekngfnhhdamaaM
open Go
section
variable {P : Program} {o : Oper} {a : Act} {w w0 : World} {Q : Exit → Act → World → Prop} {μ : Mp} {id : Id} {tm : List AV} {h h' : AH} {v : AV}
theorem sizeOf_run {t : TypeId} {i : TypeInfo} (hi : P.info? t = some i) (w : World) : (sizeOf t).run P w = .ok i.size w := by simp [sizeOf, typeInfo, hi]
theorem typeInfo_run {t : TypeId} {i : TypeInfo} (hi : P.info? t = some i) (w : World) : (typeInfo t).run P w = .ok i w := by simp [typeInfo, hi]
theorem wrap64_of {n : Int} (h0 : 0 ≤ n) (h1 : n ≤ IntKind.i64.max) : IntKind.i64.wrap n = n := by
  simp [IntKind.max, IntKind.signed, IntKind.bits] at h1
  simp [IntKind.wrap, IntKind.signed, IntKind.bits]
  omega
theorem sim_mkS (R : Rel w0 μ h w) (ht : TR μ tm a.tmps) (hf : MFree id μ) {t el : TypeId} {x y : Operand} {x' y' : Opd} {i : TypeInfo} {z : List AV} {n c : Int} (ho : o.op = .makeSlice t x y) (hu : P.underlying t = some (.slice el)) (hi : P.info? el = some i) (hz : rzero P el = some z)
    (hx : ropd x = some x') (hy : ropd y = some y') (ex : aint (ev tm x') = some n) (ey : aint (ev tm y') = some c) (h0 : 0 ≤ n) (hnc : n ≤ c) (hc : c ≤ IntKind.i64.max) (hb : c.toNat * i.bytes ≤ 2 * roomMost) :
    o.wp P a w (Post w0 μ id o a (.slc id 0 n.toNat i.size) (h.set id (some ⟨true, azeros z n.toNat⟩))) Q := by
  obtain ⟨i', zv, h1, h2, h3, h4⟩ := rzero_info hz
  rw [hi] at h1; cases h1
  obtain ⟨k1, e1⟩ := aintO_sim ht hx ex
  obtain ⟨k2, e2⟩ := aintO_sim ht hy ey
  have hid := hf id (List.suffix_refl _)
  have wn := wrap64_of h0 (Int.le_trans hnc hc)
  have wc := wrap64_of (Int.le_trans h0 hnc) hc
  have hcc : (c.toNat : Int) = c := by omega
  have ht1 : (decide (c < 0) || decide ((i.bytes : Int) * c > 2 ^ 48)) = false := by
    have : (i.bytes : Int) * c ≤ 2 ^ 48 := by
      have h5 : ((c.toNat * i.bytes : Nat) : Int) ≤ ((2 * roomMost : Nat) : Int) := by omega
      rw [Int.natCast_mul, hcc, Int.mul_comm] at h5
      exact h5
    simp; omega
  let Z : Array Value := if c.toNat * i.size = 0 then #[] else zv.cells
  have hZ : (Array.range (c.toNat * i.size)).map (fun k => Z[k % Z.size]!) = (Array.range (c.toNat * zv.cells.size)).map (fun k => zv.cells[k % zv.cells.size]!) := by
    rw [h3]
    by_cases hk : c.toNat * i.size = 0
    · simp [hk]
    · simp only [Z, if_neg hk, h3]
  have hvs := zeros_sim (h4 μ) n.toNat
  have hR := R.alloc hid ((Array.range (c.toNat * i.size)).map (fun k => Z[k % Z.size]!)) el (0, 0) (.inl rfl) hvs (by rw [h3]; simp; exact Nat.mul_le_mul_right _ (by omega)) (fun j v hj => by
    rw [hZ]
    have hj' := (List.getElem?_eq_some_iff.1 hj).1
    have h6 : n.toNat * zv.cells.size ≤ c.toNat * zv.cells.size := Nat.mul_le_mul_right _ (by omega)
    simp only [Array.length_toList, Array.size_map, Array.size_range] at hj'
    have h7 : j < c.toNat * zv.cells.size := by omega
    simp only [Array.getElem?_toList, Array.getElem?_map] at hj ⊢
    simpa [hj', h7] using hj)
  refine wp_val (v := .slice (some ⟨w.heap.size, 0, none⟩) n.toNat c.toNat) ?_ ⟨_, _, Mp.set_ext hid, MDom.set _ _ _, ?_, hR, rfl⟩
  · have hnl : ¬ (n < 0) := by omega
    have hnl2 : ¬ (n > c) := by omega
    have hroom : (askRoom (c.toNat * i.bytes)).run P w = .ok () w := by unfold askRoom; split <;> rfl
    by_cases hk : c.toNat * i.size = 0
    · simp only [execOp, ho, e1, e2, Instr.makeSlice, Sem.run_bind, run_underlying hu, Result.andThen_ok, asInt, asIntOf, typeInfo_run hi, Sem.run_pure, wn, wc, ht1, hnl, hnl2, decide_false, Bool.or_self, Bool.false_eq_true, if_false, hroom, sizeOf_run hi, if_pos hk]
      simp [Z, hk, newRow]
    · simp only [execOp, ho, e1, e2, Instr.makeSlice, Sem.run_bind, run_underlying hu, Result.andThen_ok, asInt, asIntOf, typeInfo_run hi, Sem.run_pure, wn, wc, ht1, hnl, hnl2, decide_false, Bool.or_self, Bool.false_eq_true, if_false, hroom, sizeOf_run hi, if_neg hk, zeroValue_run hi h2]
      simp [Z, hk, newRow]
  · simp only [VR]
    exact ⟨_, _, _, Mp.set_self _ _ _, rfl, by omega, by simp, .inl (by simp [at_])⟩
end
end Go.Proofs.YtgekngfnhhdamaaM
