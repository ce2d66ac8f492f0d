/- Each of the machine's operations does what the model's does: structs, texts, rows; no conditions. -/
import Derived.Test.YtgekngfnhhdamaaM8
import Derived.Lib.ConvBytes
import Derived.Laws.BytesArg
set_option linter.unusedVariables false
set_option linter.unusedSimpArgs false
namespace Go.Proofs.YtgekngfnhhdamaaM
open Go
section
variable {P : Program} {o : Oper} {a : Act} {w w0 : World} {Q : Exit → Act → World → Prop} {μ : Mp} {id : Id} {tm : List AV} {h h' : AH} {v : AV}
/-! ### structs that are equal -/
theorem eqFields_sim (d : Nat) {us vs : Array Value} : ∀ {fs : List Field} {q : Nat} {ks : List Nat} {l m : List AV} {b : Bool}, flat P q fs = some ks → VRs μ l (us.toList.drop q) → VRs μ m (vs.toList.drop q) → aeqs ks l m = some b → (Op.eqFields (d + 1) us vs fs).run P w = .ok b w
  | [], q, ks, l, m, b, hf, h1, h2, e => by
    cases hf
    match l, m, e with
    | [], [], e => cases e; simp [Op.eqFields]
  | f :: fs, q, ks, l, m, b, hf, h1, h2, e => by
    unfold flat at hf
    split at hf
    case isFalse => cases hf
    rename_i hc
    simp only [Bool.and_eq_true, bne_iff_ne, ne_eq, beq_iff_eq] at hc
    obtain ⟨hn, ho⟩ := hc
    have key : ∃ k ks' td, ks = k :: ks' ∧ flat P (q + 1) fs = some ks' ∧ P.underlying f.type = some td ∧ td.isRow = false ∧ ((k = 0 ∧ td = .bool) ∨ (k = 1 ∧ ∃ j, td = .int j) ∨ (k = 2 ∧ td = .string)) := by
      split at hf
      · rename_i e1 e2; cases hf; exact ⟨0, _, _, rfl, e2, e1, rfl, .inl ⟨rfl, rfl⟩⟩
      · rename_i j ks' e1 e2; cases hf; exact ⟨1, _, _, rfl, e2, e1, rfl, .inr (.inl ⟨rfl, j, rfl⟩)⟩
      · rename_i e1 e2; cases hf; exact ⟨2, _, _, rfl, e2, e1, rfl, .inr (.inr ⟨rfl, rfl⟩)⟩
      · cases hf
    obtain ⟨k, ks', td, rfl, hr, d1, d2, d3⟩ := key
    match l, m, e with
    | x :: l, y :: m, e =>
    unfold aeqs at e
    cases hc : aeqc k x y with
    | none => simp [hc] at e
    | some c =>
    cases hs : aeqs ks' l m with
    | none => simp [hc, hs] at e
    | some s =>
    simp only [hc, hs] at e
    cases e
    obtain ⟨u, us', hu, u1, u2⟩ := h1.cons_inv
    obtain ⟨z, vs', hz, z1, z2⟩ := h2.cons_inv
    have gu : us[q]? = some u := by
      have := congrArg (·[0]?) hu
      simpa [List.getElem?_drop] using this
    have gz : vs[q]? = some z := by
      have := congrArg (·[0]?) hz
      simpa [List.getElem?_drop] using this
    have hu2 : us' = us.toList.drop (q + 1) := by rw [← List.drop_drop, hu]; rfl
    have hz2 : vs' = vs.toList.drop (q + 1) := by rw [← List.drop_drop, hz]; rfl
    have p1 : (part f.type us f.offset).run P w = .ok u w := by simp [part, isAgg_run d1, d2, ho, gu]
    have p2 : (part f.type vs f.offset).run P w = .ok z w := by simp [part, isAgg_run d1, d2, ho, gz]
    have he : (Op.equalIn (d + 1) f.type u z).run P w = .ok c w := by
      rcases d3 with ⟨rfl, rfl⟩ | ⟨rfl, j, rfl⟩ | ⟨rfl, rfl⟩ <;> unfold aeqc at hc <;> split at hc <;> first
        | (exfalso; simp_all; done)
        | skip
      · cases hc; simp only [VR] at u1 z1; subst u1; subst z1; exact eqIn_b d d1 w
      · split at hc <;> cases hc
        rename_i hkk; simp only [VR] at u1 z1; subst u1; subst z1
        simp [Op.equalIn, run_underlying d1, hkk]
      · cases hc; simp only [VR] at u1 z1; subst u1; subst z1
        simp [Op.equalIn, run_underlying d1]
    have ih := eqFields_sim d hr (hu2 ▸ u2) (hz2 ▸ z2) hs
    simp only [Op.eqFields, if_pos hn, Sem.run_bind, p1, p2, he, Result.andThen_ok]
    cases c
    · simp
    · simpa using ih
theorem sim_eqs (R : Rel w0 μ h w) (ht : TR μ tm a.tmps) {neg : Bool} {t u : TypeId} {x y : Operand} {x' y' : Opd} {ks : List Nat} {l m : List AV} {b : Bool} (ho : o.op = .binOp (if neg then .neq else .eql) t x y u) (hr : rstruct P t = some ks)
    (hx : ropd x = some x') (hy : ropd y = some y') (ex : ev tm x' = .agg l) (ey : ev tm y' = .agg m) (e : aeqs ks l m = some b) : o.wp P a w (Post w0 μ id o a (.bool (b != neg)) h) Q := by
  have h1 := ropd_sim ht hx
  have h2 := ropd_sim ht hy
  rw [ex] at h1; rw [ey] at h2
  simp only [VR] at h1 h2
  obtain ⟨us, v1, g1⟩ := h1
  obtain ⟨vs, v2, g2⟩ := h2
  unfold rstruct at hr
  split at hr
  case h_2 => cases hr
  rename_i fs hu
  split at hr
  case isFalse => cases hr
  rename_i hc
  simp only [Bool.and_eq_true, Bool.not_eq_true'] at hc
  have hf : P.fieldsOf t = fs := by simp [Program.fieldsOf, hu]
  refine post_val R (x := .bool (b != neg)) (eq_run ho (by simp [v1]) (by simp [v1]) (by simp [v1]) (by simp [v1]) ?_ ?_) VR_bool
  · rw [v1, v2]; cases neg <;> simp [eqGuard, hc.2]
  · rw [v1, v2]
    refine (run_equalIn_struct (P := P) w 9999 t us vs (by rw [hf]; exact hu) hc.1).trans ?_
    rw [hf]
    exact eqFields_sim 9998 hr (by simpa using g1) (by simpa using g2) e
end
end Go.Proofs.YtgekngfnhhdamaaM
