/- The numbers behind Longer, Shorter and Fits, and their contracts at rates that Near gives; no conditions beyond those that each theorem names. -/
import Derived.Test.YtllagimocmdldaaDrift
namespace Go.Proofs.Ytllagimocmdldaa
open Go.RowKit PDriftRises Go.Proofs.YtllagimocmdldaaW.PrintWords Go.Proofs.YtllagimocmdldaaW.PrintMore
theorem i64_and65535 (n : Int) : bits .and .i64 n 65535 = n % 65536 := by
  have h127 : (BitVec.ofInt 64 65535).toNat = 2 ^ 16 - 1 := by decide
  have key : (BitVec.ofInt 64 n &&& BitVec.ofInt 64 65535).toNat = (n % ((2 ^ 64 : Nat) : Int)).toNat % 2 ^ 16 := by
    rw [BitVec.toNat_and, BitVec.toNat_ofInt, h127, Nat.and_two_pow_sub_one_eq_mod]
  show IntKind.i64.wrap ((BitVec.ofInt 64 n &&& BitVec.ofInt 64 65535).toNat : Nat) = n % 65536
  rw [key, IntKind.wrap_i64]
  omega
theorem near_ok (a b : Int) : ∃ p q, chatelainelaw04_Near.f a b = some (p, q) ∧ Gd p q ∧ q ≤ 200 := by
  unfold chatelainelaw04_Near.f
  rw [i64_and65535, i64_and65535, Int.tmod_eq_emod_of_nonneg (by omega), w64 (x := 1 + b % 65536 % 200) (by omega) (by omega)]
  obtain ⟨q, hq⟩ : ∃ q, 1 + b % 65536 % 200 = q := ⟨_, rfl⟩
  rw [hq, w64 (x := 3 * q) (by omega) (by omega), w64 (x := 3 * q + 1) (by omega) (by omega), if_neg (by omega), Int.tmod_eq_emod_of_nonneg (by omega)]
  have r0 := Int.emod_nonneg (a % 65536) (b := 3 * q + 1) (by omega)
  have r1 := Int.emod_lt_of_pos (a % 65536) (b := 3 * q + 1) (by omega)
  rw [w64 (by omega) (by omega)]
  exact ⟨_, _, rfl, ⟨by omega, by omega, by omega, by omega⟩, by omega⟩
theorem fits_eq {p q : Int} (h : Gd p q) {a b : Int} (a0 : 0 ≤ a) (a1 : a ≤ 1099511627776) (b0 : 0 ≤ b) (b1 : b ≤ 1099511627776) :
    drift_Rate_Fits.f p q a b = some (decide (a * q ≤ b * p ∧ b * q ≤ a * p)) := by
  have hc := check_yes h
  obtain ⟨h1, h2, h3, h4⟩ := h
  obtain ⟨m0, m1⟩ := mul_bd a0 a1 (b := q) (B := 1000) (by omega) (by omega)
  obtain ⟨n0, n1⟩ := mul_bd b0 b1 (b := p) (B := 1000) (by omega) (by omega)
  obtain ⟨r0, r1⟩ := mul_bd b0 b1 (b := q) (B := 1000) (by omega) (by omega)
  obtain ⟨s0, s1⟩ := mul_bd a0 a1 (b := p) (B := 1000) (by omega) (by omega)
  unfold drift_Rate_Fits.f
  rw [hc]; simp only [Option.bind_some, if_true]
  rw [within_eq, within_eq, wn_id a0 a1, wn_id b0 b1]; simp only [Option.bind_some, if_true]
  rw [w64 (by omega) (by omega), w64 (by omega) (by omega), w64 (by omega) (by omega), w64 (by omega) (by omega)]
  by_cases c : a * q ≤ b * p
  · rw [if_pos c]; simp [c]
  · rw [if_neg c]; simp [c]
/-- Longer, Shorter, as numbers. -/
def Lg (p q t : Int) : Int := (t * p + q - 1) / q
def Sh (p q t : Int) : Int := t * q / p
theorem lg_ge {p q : Int} (h : Gd p q) (t : Int) : t * p ≤ Lg p q t * q := by
  obtain ⟨h1, h2, h3, h4⟩ := h
  have e := Int.mul_ediv_add_emod (t * p + q - 1) q
  have l := Int.emod_lt_of_pos (t * p + q - 1) (b := q) (by omega)
  have g := Int.emod_nonneg (t * p + q - 1) (b := q) (by omega)
  have c := Int.mul_comm ((t * p + q - 1) / q) q
  unfold Lg; omega
theorem lg_lt {p q : Int} (h : Gd p q) (t : Int) : (Lg p q t - 1) * q < t * p := by
  obtain ⟨h1, h2, h3, h4⟩ := h
  have e := Int.mul_ediv_add_emod (t * p + q - 1) q
  have l := Int.emod_lt_of_pos (t * p + q - 1) (b := q) (by omega)
  have g := Int.emod_nonneg (t * p + q - 1) (b := q) (by omega)
  have c := Int.mul_comm ((t * p + q - 1) / q) q
  unfold Lg; rw [Int.sub_mul]; omega
theorem sh_le {p q : Int} (h : Gd p q) (t : Int) : Sh p q t * p ≤ t * q := by
  obtain ⟨h1, h2, h3, h4⟩ := h
  exact Int.ediv_mul_le _ (by omega)
theorem sh_lt {p q : Int} (h : Gd p q) (t : Int) : t * q < (Sh p q t + 1) * p := by
  obtain ⟨h1, h2, h3, h4⟩ := h
  have e := Int.mul_ediv_add_emod (t * q) p
  have l := Int.emod_lt_of_pos (t * q) (b := p) (by omega)
  have c := Int.mul_comm (t * q / p) p
  unfold Sh; rw [Int.add_mul]; omega
theorem le_of_mul {a b c : Int} (hc : 0 < c) (h : a * c ≤ b * c) : a ≤ b := Int.le_of_mul_le_mul_right h hc
theorem lt_of_mul {a b c : Int} (hc : 0 ≤ c) (h : a * c < b * c) : a < b := Int.lt_of_mul_lt_mul_right h hc
theorem mul_le {a b c : Int} (hc : 0 ≤ c) (h : a ≤ b) : a * c ≤ b * c := Int.mul_le_mul_of_nonneg_right h hc
theorem mul_le' {a b c : Int} (hc : 0 ≤ c) (h : a ≤ b) : c * a ≤ c * b := Int.mul_le_mul_of_nonneg_left h hc
theorem lg_self {p q : Int} (h : Gd p q) {t : Int} (t0 : 0 ≤ t) : t ≤ Lg p q t :=
  le_of_mul (c := q) (by have := h.q1; omega) (Int.le_trans (mul_le' t0 h.pq) (lg_ge h t))
theorem lg_four {p q : Int} (h : Gd p q) {t : Int} (t0 : 0 ≤ t) : Lg p q t ≤ 4 * t := by
  have a := lg_lt h t
  have b : t * p ≤ t * (4 * q) := mul_le' t0 h.p4
  have c : t * (4 * q) = (4 * t) * q := by rw [← Int.mul_assoc, Int.mul_comm t 4]
  have := lt_of_mul (a := Lg p q t - 1) (b := 4 * t) (c := q) (by have := h.q1; omega) (by omega)
  omega
theorem sh_self {p q : Int} (h : Gd p q) {t : Int} (t0 : 0 ≤ t) : Sh p q t ≤ t :=
  le_of_mul (c := p) (by have := h.q1; have := h.pq; omega) (Int.le_trans (sh_le h t) (mul_le' t0 h.pq))
theorem sh_nonneg {p q : Int} (h : Gd p q) {t : Int} (t0 : 0 ≤ t) : 0 ≤ Sh p q t :=
  Int.ediv_nonneg (Int.mul_nonneg t0 (by have := h.q1; omega)) (by have := h.q1; have := h.pq; omega)
theorem lg_mono {p q : Int} (h : Gd p q) {s t : Int} (st : s ≤ t) : Lg p q s ≤ Lg p q t := by
  have := h.q1; have := h.pq
  have := mul_le (c := p) (by omega) st
  exact Int.ediv_le_ediv (by omega) (by omega)
theorem sh_mono {p q : Int} (h : Gd p q) {s t : Int} (st : s ≤ t) : Sh p q s ≤ Sh p q t := by
  have := h.q1; have := h.pq
  exact Int.ediv_le_ediv (by omega) (mul_le (c := q) (by omega) st)
theorem sh_lg {p q : Int} (h : Gd p q) (t : Int) : t ≤ Sh p q (Lg p q t) := by
  have := h.q1; have := h.pq
  have a := lg_ge h t
  have b := sh_lt h (Lg p q t)
  have := lt_of_mul (a := t) (b := Sh p q (Lg p q t) + 1) (c := p) (by omega) (by omega)
  omega
theorem lg_sh {p q : Int} (h : Gd p q) (t : Int) : Lg p q (Sh p q t) ≤ t := by
  have := h.q1; have := h.pq
  have a := lg_lt h (Sh p q t)
  have b := sh_le h t
  have := lt_of_mul (a := Lg p q (Sh p q t) - 1) (b := t) (c := q) (by omega) (by omega)
  omega
/-- Who waited the longer time on one clock has waited the time on the other. -/
theorem waits_lg {p q : Int} (h : Gd p q) {a b t : Int} (f : a * q ≤ b * p) (l : Lg p q t ≤ a) : t ≤ b := by
  have := h.q1; have := h.pq
  have x := lg_ge h t
  have y := mul_le (c := q) (by omega) l
  exact le_of_mul (c := p) (by omega) (by omega)
theorem waits_sh {p q : Int} (h : Gd p q) {a b t : Int} (f : a * q ≤ b * p) (l : t ≤ a) : Sh p q t ≤ b := by
  have := h.q1; have := h.pq
  have x := sh_le h t
  have y := mul_le (c := q) (by omega) l
  exact le_of_mul (c := p) (by omega) (by omega)
theorem g23 (a b : Int) : ∃ p q, Gives Try.prog 23 #[.int .i64 a, .int .i64 b] (.agg #[.int .i64 p, .int .i64 q]) ∧ Gd p q ∧ q ≤ 200 := by
  obtain ⟨p, q, e, h, h2⟩ := near_ok a b
  exact ⟨p, q, fun w => chatelainelaw04_Near.calls a b p q w e, h, h2⟩
theorem g16 {p q : Int} (h : Gd p q) : Gives Try.prog 16 #[.agg #[.int .i64 p, .int .i64 q]] (.int .i64 0) := fun w => c16y h w
theorem g18 {p q : Int} (h : Gd p q) {t : Int} (t0 : 0 ≤ t) (t1 : t ≤ 1099511627776) : Gives Try.prog 18 #[.agg #[.int .i64 p, .int .i64 q], .int .i64 t] (.int .i64 (Lg p q t)) := fun w => by
  have := c18y h t w; rwa [wn_id t0 t1] at this
theorem g20 {p q : Int} (h : Gd p q) {t : Int} (t0 : 0 ≤ t) (t1 : t ≤ 1099511627776) : Gives Try.prog 20 #[.agg #[.int .i64 p, .int .i64 q], .int .i64 t] (.int .i64 (Sh p q t)) := fun w => by
  have := c20y h t w; rwa [wn_id t0 t1] at this
theorem g24 {p q : Int} (h : Gd p q) {a b : Int} (a0 : 0 ≤ a) (a1 : a ≤ 1099511627776) (b0 : 0 ≤ b) (b1 : b ≤ 1099511627776) : Gives Try.prog 24 #[.agg #[.int .i64 p, .int .i64 q], .int .i64 a, .int .i64 b] (.bool (decide (a * q ≤ b * p ∧ b * q ≤ a * p))) := fun w =>
  drift_Rate_Fits.calls p q a b _ w (fits_eq h a0 a1 b0 b1)

end Go.Proofs.Ytllagimocmdldaa
