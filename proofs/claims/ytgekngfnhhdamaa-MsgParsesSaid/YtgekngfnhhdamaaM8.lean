/- Each of the machine's operations does what the model's does: comparisons, cuts, rows; no conditions. -/
import Derived.Test.YtgekngfnhhdamaaM7
import Derived.Laws.StructEq
set_option linter.unusedVariables false
set_option linter.unusedSimpArgs false
namespace Go.Proofs.YtgekngfnhhdamaaM
open Go
section
variable {P : Program} {o : Oper} {a : Act} {w w0 : World} {Q : Exit → Act → World → Prop} {μ : Mp} {id : Id} {tm : List AV} {h h' : AH} {v : AV}
/-! ### comparisons -/
theorem eq_run {neg : Bool} {t u : TypeId} {x y : Operand} {b : Bool} (ho : o.op = .binOp (if neg then .neq else .eql) t x y u) (hint : ∀ k n, a.eval x ≠ .int k n) (hstr : ∀ s, a.eval x ≠ .string s)
    (hfl : ∀ k n, a.eval x ≠ .float k n) (hco : ∀ k m n, a.eval x ≠ .complex k m n)
    (hg : (eqGuard (if neg then .neq else .eql) t x y (a.eval x) (a.eval y)).run P w = .ok () w) (he : (Op.equalIn 10000 t (a.eval x) (a.eval y)).run P w = .ok b w) :
    (execOp a.eval o).run P w = .ok (.value (.bool (b != neg))) w := by
  simp only [execOp, ho, Sem.run_bind, hg, Result.andThen_ok]
  have hb : (binOp (if neg then .neq else .eql) t (a.eval x) (a.eval y)).run P w = .ok (.bool (b != neg)) w := by
    generalize a.eval x = X at *
    generalize a.eval y = Y at *
    cases neg <;> cases X <;> first
      | exact absurd rfl (hint _ _)
      | exact absurd rfl (hstr _)
      | exact absurd rfl (hfl _ _)
      | exact absurd rfl (hco _ _ _)
      | (simp [binOp, Op.equal, Op.maxDepth, he])
  rw [hb]; rfl
section
variable {t : TypeId} (d : Nat)
theorem eqIn_b {x y : Bool} (hu : P.underlying t = some .bool) (w : World) : (Op.equalIn (d + 1) t (.bool x) (.bool y)).run P w = .ok (x == y) w := by simp [Op.equalIn, run_underlying hu]
theorem eqIn_pnn {e : TypeId} (hu : P.underlying t = some (.pointer e)) (w : World) : (Op.equalIn (d + 1) t (.pointer none) (.pointer none)).run P w = .ok true w := by simp [Op.equalIn, run_underlying hu]
theorem eqIn_pnv {e : TypeId} {x : Addr} (hu : P.underlying t = some (.pointer e)) (w : World) : (Op.equalIn (d + 1) t (.pointer none) (.pointer (some x))).run P w = .ok false w := by simp [Op.equalIn, run_underlying hu]
theorem eqIn_pvn {e : TypeId} {x : Addr} (hu : P.underlying t = some (.pointer e)) (w : World) : (Op.equalIn (d + 1) t (.pointer (some x)) (.pointer none)).run P w = .ok false w := by simp [Op.equalIn, run_underlying hu]
theorem eqIn_snn {e : TypeId} (hu : P.underlying t = some (.slice e)) (w : World) : (Op.equalIn (d + 1) t (.slice none 0 0) (.slice none 0 0)).run P w = .ok true w := by simp [Op.equalIn, run_underlying hu]
theorem eqIn_snv {e : TypeId} {x : Addr} {n c : Nat} (hu : P.underlying t = some (.slice e)) (w : World) : (Op.equalIn (d + 1) t (.slice none 0 0) (.slice (some x) n c)).run P w = .ok false w := by simp [Op.equalIn, run_underlying hu]
theorem eqIn_svn {e : TypeId} {x : Addr} {n c : Nat} (hu : P.underlying t = some (.slice e)) (w : World) : (Op.equalIn (d + 1) t (.slice (some x) n c) (.slice none 0 0)).run P w = .ok false w := by simp [Op.equalIn, run_underlying hu]
theorem eqIn_fnn {p q : Array TypeId} {r : Bool} (hu : P.underlying t = some (.func p q r)) (w : World) : (Op.equalIn (d + 1) t .nilFunc .nilFunc).run P w = .ok true w := by simp [Op.equalIn, run_underlying hu]
theorem eqIn_fnv {p q : Array TypeId} {r : Bool} {f : Fn} {c d' : Array Value} (hu : P.underlying t = some (.func p q r)) (w : World) : (Op.equalIn (d + 1) t .nilFunc (.func f c d')).run P w = .ok false w := by simp [Op.equalIn, run_underlying hu]
theorem eqIn_fvn {p q : Array TypeId} {r : Bool} {f : Fn} {c d' : Array Value} (hu : P.underlying t = some (.func p q r)) (w : World) : (Op.equalIn (d + 1) t (.func f c d') .nilFunc).run P w = .ok false w := by simp [Op.equalIn, run_underlying hu]
theorem eqIn_inn {ms : Array (String × TypeId)} (hu : P.underlying t = some (.interface ms)) (w : World) : (Op.equalIn (d + 1) t .nilIface .nilIface).run P w = .ok true w := by simp [Op.equalIn, run_underlying hu]
theorem eqIn_inv {ms : Array (String × TypeId)} {f : TypeId} {c : Value} (hu : P.underlying t = some (.interface ms)) (w : World) : (Op.equalIn (d + 1) t .nilIface (.iface f c)).run P w = .ok false w := by simp [Op.equalIn, run_underlying hu]
theorem eqIn_ivn {ms : Array (String × TypeId)} {f : TypeId} {c : Value} (hu : P.underlying t = some (.interface ms)) (w : World) : (Op.equalIn (d + 1) t (.iface f c) .nilIface).run P w = .ok false w := by simp [Op.equalIn, run_underlying hu]
end
theorem sim_eqn (R : Rel w0 μ h w) (ht : TR μ tm a.tmps) {neg : Bool} {t u : TypeId} {x y : Operand} {x' y' : Opd} {kind : Nat} {b : Bool} {d : TypeDesc} (ho : o.op = .binOp (if neg then .neq else .eql) t x y u) (hu : P.underlying t = some d)
    (hk : (kind = 0 ∧ d = .bool) ∨ (kind = 1 ∧ ∃ e, d = .pointer e) ∨ (kind = 2 ∧ ∃ e, d = .slice e) ∨ (kind = 3 ∧ ∃ p q r, d = .func p q r) ∨ (kind = 4 ∧ (∃ ms, d = .interface ms) ∧ (isConst x || isConst y) = true))
    (hx : ropd x = some x') (hy : ropd y = some y') (e : aeqn kind (ev tm x').fg (ev tm y').fg = some b) : o.wp P a w (Post w0 μ id o a (.bool (b != neg)) h) Q := by
  have h1 := (ropd_sim ht hx).fg
  have h2 := (ropd_sim ht hy).fg
  generalize (ev tm x').fg = X at *
  generalize (ev tm y').fg = Y at *
  refine post_val R (x := .bool (b != neg)) ?_ VR_bool
  unfold aeqn at e
  split at e <;> cases e <;> simp only [VR] at h1 h2
  · have hk : d = .bool := by simpa using hk
    subst hk
    refine eq_run ho (by simp [h1]) (by simp [h1]) (by simp [h1]) (by simp [h1]) (by rw [h1, h2]; exact eqGuard_plain _ _ _ _ (by simp) (by simp) _) ?_
    rw [h1, h2]; exact eqIn_b 9999 hu w
  · have hk : ∃ e, d = .pointer e := by simpa using hk
    obtain ⟨e, rfl⟩ := hk
    refine eq_run ho (by simp [h1]) (by simp [h1]) (by simp [h1]) (by simp [h1]) (by rw [h1, h2]; exact eqGuard_plain _ _ _ _ (by simp) (by simp) _) ?_
    rw [h1, h2]; exact eqIn_pnn 9999 hu w
  · have hk : ∃ e, d = .pointer e := by simpa using hk
    obtain ⟨e, rfl⟩ := hk
    obtain ⟨_, _, h2⟩ := h2
    refine eq_run ho (by simp [h1]) (by simp [h1]) (by simp [h1]) (by simp [h1]) (by rw [h1, h2]; exact eqGuard_plain _ _ _ _ (by simp) (by simp) _) ?_
    rw [h1, h2]; exact eqIn_pnv 9999 hu w
  · have hk : ∃ e, d = .pointer e := by simpa using hk
    obtain ⟨e, rfl⟩ := hk
    obtain ⟨_, _, h1⟩ := h1
    refine eq_run ho (by simp [h1]) (by simp [h1]) (by simp [h1]) (by simp [h1]) (by rw [h1, h2]; exact eqGuard_plain _ _ _ _ (by simp) (by simp) _) ?_
    rw [h1, h2]; exact eqIn_pvn 9999 hu w
  · have hk : ∃ e, d = .slice e := by simpa using hk
    obtain ⟨e, rfl⟩ := hk
    refine eq_run ho (by simp [h1]) (by simp [h1]) (by simp [h1]) (by simp [h1]) (by rw [h1, h2]; exact eqGuard_plain _ _ _ _ (by simp) (by simp) _) ?_
    rw [h1, h2]; exact eqIn_snn 9999 hu w
  · have hk : ∃ e, d = .slice e := by simpa using hk
    obtain ⟨e, rfl⟩ := hk
    obtain ⟨_, _, _, _, h2, _⟩ := h2
    refine eq_run ho (by simp [h1]) (by simp [h1]) (by simp [h1]) (by simp [h1]) (by rw [h1, h2]; exact eqGuard_plain _ _ _ _ (by simp) (by simp) _) ?_
    rw [h1, h2]; exact eqIn_snv 9999 hu w
  · have hk : ∃ e, d = .slice e := by simpa using hk
    obtain ⟨e, rfl⟩ := hk
    obtain ⟨_, _, _, _, h1, _⟩ := h1
    refine eq_run ho (by simp [h1]) (by simp [h1]) (by simp [h1]) (by simp [h1]) (by rw [h1, h2]; exact eqGuard_plain _ _ _ _ (by simp) (by simp) _) ?_
    rw [h1, h2]; exact eqIn_svn 9999 hu w
  · have hk : ∃ p q r, d = .func p q r := by simpa using hk
    obtain ⟨q1, q2, q3, rfl⟩ := hk
    refine eq_run ho (by simp [h1]) (by simp [h1]) (by simp [h1]) (by simp [h1]) (by rw [h1, h2]; exact eqGuard_plain _ _ _ _ (by simp) (by simp) _) ?_
    rw [h1, h2]; exact eqIn_fnn 9999 hu w
  · have hk : ∃ p q r, d = .func p q r := by simpa using hk
    obtain ⟨q1, q2, q3, rfl⟩ := hk
    obtain ⟨_, _, h2, _⟩ := h2
    refine eq_run ho (by simp [h1]) (by simp [h1]) (by simp [h1]) (by simp [h1]) (by rw [h1, h2]; exact eqGuard_plain _ _ _ _ (by simp) (by simp) _) ?_
    rw [h1, h2]; exact eqIn_fnv 9999 hu w
  · have hk : ∃ p q r, d = .func p q r := by simpa using hk
    obtain ⟨q1, q2, q3, rfl⟩ := hk
    obtain ⟨_, _, h1, _⟩ := h1
    refine eq_run ho (by simp [h1]) (by simp [h1]) (by simp [h1]) (by simp [h1]) (by rw [h1, h2]; exact eqGuard_plain _ _ _ _ (by simp) (by simp) _) ?_
    rw [h1, h2]; exact eqIn_fvn 9999 hu w
  · have hk : (∃ ms, d = .interface ms) ∧ (isConst x || isConst y) = true := by simpa using hk
    obtain ⟨⟨ms, rfl⟩, hc⟩ := hk
    refine eq_run ho (by simp [h1]) (by simp [h1]) (by simp [h1]) (by simp [h1]) (by rw [h1, h2]; exact (by cases x <;> cases y <;> first | (simp [isConst] at hc; done) | (cases neg <;> simp [eqGuard]))) ?_
    rw [h1, h2]; exact eqIn_inn 9999 hu w
  · have hk : (∃ ms, d = .interface ms) ∧ (isConst x || isConst y) = true := by simpa using hk
    obtain ⟨⟨ms, rfl⟩, hc⟩ := hk
    obtain ⟨_, h2, _⟩ := h2
    refine eq_run ho (by simp [h1]) (by simp [h1]) (by simp [h1]) (by simp [h1]) (by rw [h1, h2]; exact (by cases neg <;> simp [eqGuard])) ?_
    rw [h1, h2]; exact eqIn_inv 9999 hu w
  · have hk : (∃ ms, d = .interface ms) ∧ (isConst x || isConst y) = true := by simpa using hk
    obtain ⟨⟨ms, rfl⟩, hc⟩ := hk
    obtain ⟨_, h1, _⟩ := h1
    refine eq_run ho (by simp [h1]) (by simp [h1]) (by simp [h1]) (by simp [h1]) (by rw [h1, h2]; exact eqGuard_plain _ _ _ _ (by simp) (by simp) _) ?_
    rw [h1, h2]; exact eqIn_ivn 9999 hu w
end
end Go.Proofs.YtgekngfnhhdamaaM
