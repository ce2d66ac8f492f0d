/- Each of the machine's operations does what the model's does: structs, texts, rows; no conditions. -/
import Derived.Test.YtgekngfnhhdamaaM8
import Derived.Lib.ConvBytes
import Derived.Laws.BytesArg
set_option linter.unusedVariables false
set_option linter.unusedSimpArgs false
namespace Go.Proofs.YtgekngfnhhdamaaM
open Go
section
variable {P : Program} {o : Oper} {a : Act} {w w0 : World} {Q : Exit → Act → World → Prop} {μ : Mp} {id : Id} {tm : List AV} {h h' : AH} {v : AV}
/-! ### structs that are equal -/
theorem eqFields_sim (d : Nat) {us vs : Array Value} : ∀ {fs : List Field} {q : Nat} {ks : List Nat} {l m : List AV} {b : Bool}, flat P q fs = some ks → VRs μ l (us.toList.drop q) → VRs μ m (vs.toList.drop q) → aeqs ks l m = some b → (Op.eqFields (d + 1) us vs fs).run P w = .ok b w
  | [], q, ks, l, m, b, hf, h1, h2, e => by
    cases hf
    match l, m, e with
    | [], [], e => cases e; simp [Op.eqFields]
  | f :: fs, q, ks, l, m, b, hf, h1, h2, e => by
    unfold flat at hf
    split at hf
    case isFalse => cases hf
    rename_i hc
    simp only [Bool.and_eq_true, bne_iff_ne, ne_eq, beq_iff_eq] at hc
    obtain ⟨hn, ho⟩ := hc
    have key : ∃ k ks' td, ks = k :: ks' ∧ flat P (q + 1) fs = some ks' ∧ P.underlying f.type = some td ∧ td.isRow = false ∧ ((k = 0 ∧ td = .bool) ∨ (k = 1 ∧ ∃ j, td = .int j) ∨ (k = 2 ∧ td = .string)) := by
      split at hf
      · rename_i e1 e2; cases hf; exact ⟨0, _, _, rfl, e2, e1, rfl, .inl ⟨rfl, rfl⟩⟩
      · rename_i j ks' e1 e2; cases hf; exact ⟨1, _, _, rfl, e2, e1, rfl, .inr (.inl ⟨rfl, j, rfl⟩)⟩
      · rename_i e1 e2; cases hf; exact ⟨2, _, _, rfl, e2, e1, rfl, .inr (.inr ⟨rfl, rfl⟩)⟩
      · cases hf
    obtain ⟨k, ks', td, rfl, hr, d1, d2, d3⟩ := key
    match l, m, e with
    | x :: l, y :: m, e =>
    unfold aeqs at e
    cases hc : aeqc k x y with
    | none => simp [hc] at e
    | some c =>
    cases hs : aeqs ks' l m with
    | none => simp [hc, hs] at e
    | some s =>
    simp only [hc, hs] at e
    cases e
    obtain ⟨u, us', hu, u1, u2⟩ := h1.cons_inv
    obtain ⟨z, vs', hz, z1, z2⟩ := h2.cons_inv
    have gu : us[q]? = some u := by
      have := congrArg (·[0]?) hu
      simpa [List.getElem?_drop] using this
    have gz : vs[q]? = some z := by
      have := congrArg (·[0]?) hz
      simpa [List.getElem?_drop] using this
    have hu2 : us' = us.toList.drop (q + 1) := by rw [← List.drop_drop, hu]; rfl
    have hz2 : vs' = vs.toList.drop (q + 1) := by rw [← List.drop_drop, hz]; rfl
    have p1 : (part f.type us f.offset).run P w = .ok u w := by simp [part, isAgg_run d1, d2, ho, gu]
    have p2 : (part f.type vs f.offset).run P w = .ok z w := by simp [part, isAgg_run d1, d2, ho, gz]
    have he : (Op.equalIn (d + 1) f.type u z).run P w = .ok c w := by
      rcases d3 with ⟨rfl, rfl⟩ | ⟨rfl, j, rfl⟩ | ⟨rfl, rfl⟩ <;> unfold aeqc at hc <;> split at hc <;> first
        | (exfalso; simp_all; done)
        | skip
      · cases hc; simp only [VR] at u1 z1; subst u1; subst z1; exact eqIn_b d d1 w
      · split at hc <;> cases hc
        rename_i hkk; simp only [VR] at u1 z1; subst u1; subst z1
        simp [Op.equalIn, run_underlying d1, hkk]
      · cases hc; simp only [VR] at u1 z1; subst u1; subst z1
        simp [Op.equalIn, run_underlying d1]
    have ih := eqFields_sim d hr (hu2 ▸ u2) (hz2 ▸ z2) hs
    simp only [Op.eqFields, if_pos hn, Sem.run_bind, p1, p2, he, Result.andThen_ok]
    cases c
    · simp
    · simpa using ih
theorem field_sim (d : Nat) {us vs : Array Value} {f : Field} {q : Nat} {ks : List Nat} (hf : flat P q [f] = some ks) : ∃ k, ks = [k] ∧ f.name ≠ "_" ∧ f.offset = q ∧ ∀ {x y : AV} {u z : Value}, us[q]? = some u → vs[q]? = some z → VR μ x u → VR μ y z → ∀ {c : Bool}, aeqc k x y = some c →
    (part f.type us f.offset).run P w = .ok u w ∧ (part f.type vs f.offset).run P w = .ok z w ∧ (Op.equalIn (d + 1) f.type u z).run P w = .ok c w := by
  unfold flat at hf
  split at hf
  case isFalse => cases hf
  rename_i hc
  simp only [Bool.and_eq_true, bne_iff_ne, ne_eq, beq_iff_eq] at hc
  obtain ⟨hn, ho⟩ := hc
  have key : ∃ k ks' td, ks = k :: ks' ∧ flat P (q + 1) [] = some ks' ∧ P.underlying f.type = some td ∧ td.isRow = false ∧ ((k = 0 ∧ td = .bool) ∨ (k = 1 ∧ ∃ j, td = .int j) ∨ (k = 2 ∧ td = .string)) := by
    split at hf
    · rename_i e1 e2; cases hf; exact ⟨0, _, _, rfl, e2, e1, rfl, .inl ⟨rfl, rfl⟩⟩
    · rename_i j ks' e1 e2; cases hf; exact ⟨1, _, _, rfl, e2, e1, rfl, .inr (.inl ⟨rfl, j, rfl⟩)⟩
    · rename_i e1 e2; cases hf; exact ⟨2, _, _, rfl, e2, e1, rfl, .inr (.inr ⟨rfl, rfl⟩)⟩
    · cases hf
  obtain ⟨k, ks', td, rfl, hr, d1, d2, d3⟩ := key
  cases hr
  refine ⟨k, rfl, hn, ho, fun {x y u z} gu gz u1 z1 {c} hc => ⟨by simp [part, isAgg_run d1, d2, ho, gu], by simp [part, isAgg_run d1, d2, ho, gz], ?_⟩⟩
  rcases d3 with ⟨rfl, rfl⟩ | ⟨rfl, j, rfl⟩ | ⟨rfl, rfl⟩ <;> unfold aeqc at hc <;> split at hc <;> first
    | (exfalso; simp_all; done)
    | skip
  · cases hc; simp only [VR] at u1 z1; subst u1; subst z1; exact eqIn_b d d1 w
  · split at hc <;> cases hc
    rename_i hkk; simp only [VR] at u1 z1; subst u1; subst z1
    simp [Op.equalIn, run_underlying d1, hkk]
  · cases hc; simp only [VR] at u1 z1; subst u1; subst z1
    simp [Op.equalIn, run_underlying d1]
theorem aeqs_append : ∀ {k1 k2 : List Nat} {l m : List AV} {b : Bool}, aeqs (k1 ++ k2) l m = some b → ∃ c s, aeqs k1 (l.take k1.length) (m.take k1.length) = some c ∧ aeqs k2 (l.drop k1.length) (m.drop k1.length) = some s ∧ b = (c && s) ∧ k1.length ≤ l.length ∧ k1.length ≤ m.length
  | [], k2, l, m, b, e => ⟨true, b, by simp [aeqs], by simpa using e, by simp, by simp, by simp⟩
  | k :: k1, k2, l, m, b, e => by
    match l, m, e with
    | x :: l, y :: m, e =>
    rw [List.cons_append] at e
    unfold aeqs at e
    cases hc : aeqc k x y with
    | none => simp [hc] at e
    | some c =>
    cases hs : aeqs (k1 ++ k2) l m with
    | none => simp [hc, hs] at e
    | some s =>
    simp only [hc, hs] at e
    cases e
    obtain ⟨c', s', e1, e2, rfl, e3, e4⟩ := aeqs_append hs
    refine ⟨c && c', s', ?_, by simpa using e2, by rw [Bool.and_assoc], by simp; omega, by simp; omega⟩
    simp only [List.length_cons, List.take_succ_cons]
    unfold aeqs
    simp only [hc, e1]
theorem eqFields_sim2 (d : Nat) {us vs : Array Value} : ∀ {fs : List Field} {q : Nat} {ks : List Nat} {L M : List AV} {b : Bool}, flat2 P q fs = some ks → VRs μ L us.toList → VRs μ M vs.toList → aeqs ks (L.drop q) (M.drop q) = some b → (Op.eqFields (d + 2) us vs fs).run P w = .ok b w
  | [], q, ks, L, M, b, hf, h1, h2, e => by
    cases hf
    generalize L.drop q = l at e
    generalize M.drop q = m at e
    match l, m, e with
    | [], [], e => cases e; simp [Op.eqFields]
  | f :: fs, q, ks, L, M, b, hf, h1, h2, e => by
    unfold flat2 at hf
    split at hf
    case isFalse => cases hf
    rename_i hc
    simp only [Bool.and_eq_true, bne_iff_ne, ne_eq, beq_iff_eq] at hc
    obtain ⟨hn, ho⟩ := hc
    split at hf
    · rename_i fs' hu
      split at hf
      case h_2 => cases hf
      rename_i k1 n hk1 hsz
      split at hf
      case isFalse => cases hf
      rename_i hln
      obtain ⟨hln, hn0, hst⟩ := hln
      obtain ⟨k2, hk2, rfl⟩ := Option.map_eq_some_iff.1 hf
      obtain ⟨c, s, e1, e2, rfl, e3, e4⟩ := aeqs_append e
      rw [hln] at e1 e2 e3 e4
      rw [List.drop_drop, List.drop_drop] at e2
      rw [List.length_drop] at e3 e4
      have hrow : rsh P f.type = some (some n) := by
        unfold rsh
        simp only [hu, TypeDesc.isRow, if_true, hsz, Option.map_some]
      have a1 : ∀ (K : List AV), n ≤ K.length - q → apart (some n) K f.offset = some (.agg ((K.drop q).take n)) := fun K hK => by
        unfold apart
        simp only [ho]
        rw [if_pos (by omega)]
      obtain ⟨u, pu, vu⟩ := apart_sim hrow h1 (a1 L e3) w
      obtain ⟨z, pz, vz⟩ := apart_sim hrow h2 (a1 M e4) w
      simp only [VR] at vu vz
      obtain ⟨us', rfl, vu⟩ := vu
      obtain ⟨vs', rfl, vz⟩ := vz
      have hfo : P.fieldsOf f.type = fs' := by simp [Program.fieldsOf, hu]
      have he : (Op.equalIn (d + 2) f.type (.agg us') (.agg vs')).run P w = .ok c w := by
        refine (run_equalIn_struct (P := P) w (d + 1) f.type us' vs' (by rw [hfo]; exact hu) hst).trans ?_
        rw [hfo]
        exact eqFields_sim d hk1 (by simpa using vu) (by simpa using vz) e1
      have ih := eqFields_sim2 d hk2 h1 h2 e2
      simp only [Op.eqFields, if_pos hn, Sem.run_bind, pu, pz, he, Result.andThen_ok]
      cases c
      · simp
      · simpa using ih
    · split at hf
      case h_2 => cases hf
      rename_i k1 r hk1 hr
      cases hf
      obtain ⟨k, rfl, _, _, hs⟩ := field_sim (P := P) (w := w) (μ := μ) (us := us) (vs := vs) (d + 1) hk1
      have g1 := h1.drop q
      have g2 := h2.drop q
      generalize hl : L.drop q = l at e g1
      generalize hm : M.drop q = m at e g2
      rw [List.singleton_append] at e
      match l, m, e with
      | x :: l, y :: m, e =>
      unfold aeqs at e
      cases hc : aeqc k x y with
      | none => simp [hc] at e
      | some c =>
      cases hs2 : aeqs r l m with
      | none => simp [hc, hs2] at e
      | some s =>
      simp only [hc, hs2] at e
      cases e
      obtain ⟨u, us', hu, u1, u2⟩ := g1.cons_inv
      obtain ⟨z, vs', hz, z1, z2⟩ := g2.cons_inv
      have gu : us[q]? = some u := by
        have := congrArg (·[0]?) hu
        simpa [List.getElem?_drop] using this
      have gz : vs[q]? = some z := by
        have := congrArg (·[0]?) hz
        simpa [List.getElem?_drop] using this
      obtain ⟨p1, p2, he⟩ := hs gu gz u1 z1 hc
      have el : L.drop (q + 1) = l := by rw [← List.drop_drop, hl]; rfl
      have em : M.drop (q + 1) = m := by rw [← List.drop_drop, hm]; rfl
      have ih := eqFields_sim2 d hr h1 h2 (by rw [el, em]; exact hs2)
      simp only [Op.eqFields, if_pos hn, Sem.run_bind, p1, p2, he, Result.andThen_ok]
      cases c
      · simp
      · simpa using ih
theorem sim_eqs (R : Rel w0 μ h w) (ht : TR μ tm a.tmps) {neg : Bool} {t u : TypeId} {x y : Operand} {x' y' : Opd} {ks : List Nat} {l m : List AV} {b : Bool} (ho : o.op = .binOp (if neg then .neq else .eql) t x y u) (hr : rstruct P t = some ks)
    (hx : ropd x = some x') (hy : ropd y = some y') (ex : ev tm x' = .agg l) (ey : ev tm y' = .agg m) (e : aeqs ks l m = some b) : o.wp P a w (Post w0 μ id o a (.bool (b != neg)) h) Q := by
  have h1 := ropd_sim ht hx
  have h2 := ropd_sim ht hy
  rw [ex] at h1; rw [ey] at h2
  simp only [VR] at h1 h2
  obtain ⟨us, v1, g1⟩ := h1
  obtain ⟨vs, v2, g2⟩ := h2
  unfold rstruct at hr
  split at hr
  case h_2 => cases hr
  rename_i fs hu
  split at hr
  case isFalse => cases hr
  rename_i hc
  simp only [Bool.and_eq_true, Bool.not_eq_true'] at hc
  have hf : P.fieldsOf t = fs := by simp [Program.fieldsOf, hu]
  refine post_val R (x := .bool (b != neg)) (eq_run ho (by simp [v1]) (by simp [v1]) (by simp [v1]) (by simp [v1]) ?_ ?_) VR_bool
  · rw [v1, v2]; cases neg <;> simp [eqGuard, hc.2]
  · rw [v1, v2]
    refine (run_equalIn_struct (P := P) w 9999 t us vs (by rw [hf]; exact hu) hc.1).trans ?_
    rw [hf]
    exact eqFields_sim2 9997 hr g1 g2 (by simpa using e)
end
end Go.Proofs.YtgekngfnhhdamaaM
