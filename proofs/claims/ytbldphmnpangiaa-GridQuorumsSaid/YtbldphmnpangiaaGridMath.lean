/- Quorums of regions, as numbers: two quorums of different kinds that miss one another but for witnesses are there just where there are regions enough apart. -/
import Derived.Test.YtbldphmnpangiaaRows
namespace Go.Proofs.Ytbldphmnpangiaa
/-- The bits that are set, of the lowest n. -/
def bsum : Nat → Nat → Nat
  | 0, _ => 0
  | n + 1, x => x % 2 + bsum n (x / 2)
theorem bsum_zero : ∀ n, bsum n 0 = 0
  | 0 => rfl
  | n + 1 => by simp [bsum, bsum_zero n]
theorem bsum_le : ∀ n x, bsum n x ≤ n
  | 0, _ => Nat.le_refl _
  | n + 1, x => by have := bsum_le n (x / 2); simp only [bsum]; omega
theorem bsum_add : ∀ m n x, bsum (m + n) x = bsum m x + bsum n (x / 2 ^ m)
  | 0, n, x => by simp [bsum]
  | m + 1, n, x => by
    rw [show m + 1 + n = (m + n) + 1 from by omega]
    simp only [bsum]
    rw [bsum_add m n, Nat.div_div_eq_div_mul, Nat.pow_succ, Nat.mul_comm (2 ^ m) 2]; omega
theorem bsum_mod : ∀ n x, bsum n (x % 2 ^ n) = bsum n x
  | 0, _ => rfl
  | n + 1, x => by
    simp only [bsum]
    rw [Nat.pow_succ, Nat.mul_comm (2 ^ n) 2, Nat.mod_mul_right_div_self, bsum_mod n, Nat.mod_mul_right_mod]
theorem bsum_lt {p n d : Nat} (h : d < 2 ^ p) (hp : p ≤ n) : bsum n d = bsum p d := by
  obtain ⟨q, rfl⟩ : ∃ q, n = p + q := ⟨n - p, by omega⟩
  rw [bsum_add, Nat.div_eq_of_lt h, bsum_zero]; rfl
theorem bsum_shift : ∀ s n d, bsum (s + n) (d * 2 ^ s) = bsum n d
  | 0, n, d => by simp
  | s + 1, n, d => by
    rw [show s + 1 + n = (s + n) + 1 from by omega]
    simp only [bsum]
    rw [Nat.pow_succ, ← Nat.mul_assoc, Nat.mul_mod_left, Nat.mul_div_cancel _ (by decide), bsum_shift s n d]; omega
theorem bsum_mono : ∀ n x y, (∀ i, i < n → x.testBit i = true → y.testBit i = true) → bsum n x ≤ bsum n y
  | 0, _, _, _ => Nat.le_refl _
  | n + 1, x, y, h => by
    have h0 := h 0 (by omega)
    simp only [Nat.testBit_zero, decide_eq_true_eq] at h0
    have := bsum_mono n (x / 2) (y / 2) (fun i hi hx => by
      have := h (i + 1) (by omega)
      rw [Nat.testBit_succ, Nat.testBit_succ] at this
      exact this hx)
    simp only [bsum]; omega
/-- The bits of region r. -/
def dg (p x r : Nat) : Nat := x / 2 ^ (r * p) % 2 ^ p
theorem dg_lt (p x r : Nat) : dg p x r < 2 ^ p := Nat.mod_lt _ (Nat.two_pow_pos p)
theorem dg_bit (p x r i : Nat) : (dg p x r).testBit i = (decide (i < p) && x.testBit (r * p + i)) := by
  unfold dg
  rw [Nat.testBit_mod_two_pow, Nat.testBit_div_two_pow, Nat.add_comm]
theorem bsum_dg (p x r : Nat) : bsum p (dg p x r) = bsum p (x / 2 ^ (r * p)) := by unfold dg; rw [bsum_mod]
/-- In how many of the first regions there are n nodes at least. -/
def qz (p n x : Nat) : Nat → Nat
  | 0 => 0
  | r + 1 => qz p n x r + if n ≤ bsum p (dg p x r) then 1 else 0
theorem qz_le (p n x : Nat) : ∀ r, qz p n x r ≤ r
  | 0 => Nat.le_refl _
  | r + 1 => by have := qz_le p n x r; simp only [qz]; split <;> omega
theorem qz_mono (p n x y : Nat) : ∀ r, (∀ i, i < r * p → x.testBit i = true → y.testBit i = true) → qz p n x r ≤ qz p n y r
  | 0, _ => Nat.le_refl _
  | r + 1, h => by
    have h1 := qz_mono p n x y r (fun i hi => h i (by rw [Nat.succ_mul]; omega))
    have h2 : bsum p (dg p x r) ≤ bsum p (dg p y r) := bsum_mono p _ _ (fun i hi hx => by
      rw [dg_bit] at hx ⊢
      simp only [Bool.and_eq_true, decide_eq_true_eq] at hx ⊢
      exact ⟨hi, h _ (by rw [Nat.succ_mul]; omega) hx.2⟩)
    simp only [qz]
    split <;> split <;> omega
theorem qz_full (p n x : Nat) (hn : n ≤ p) : ∀ r, (∀ i, i < r * p → x.testBit i = true) → qz p n x r = r
  | 0, _ => rfl
  | r + 1, h => by
    have h1 := qz_full p n x hn r (fun i hi => h i (by rw [Nat.succ_mul]; omega))
    have h2 : bsum p (2 ^ p - 1) ≤ bsum p (dg p x r) := bsum_mono p _ _ (fun i hi _ => by
      rw [dg_bit]; simp only [hi, decide_true, Bool.true_and]
      exact h _ (by rw [Nat.succ_mul]; omega))
    have h3 : ∀ p, bsum p (2 ^ p - 1) = p := by
      intro p
      induction p with
      | zero => rfl
      | succ p ih =>
        have hp := Nat.two_pow_pos p
        simp only [bsum]
        rw [show (2 ^ (p + 1) - 1) / 2 = 2 ^ p - 1 from by rw [Nat.pow_succ]; omega, ih, show (2 ^ (p + 1) - 1) % 2 = 1 from by rw [Nat.pow_succ]; omega]; omega
    rw [h3] at h2
    simp only [qz]
    rw [h1, if_pos (by omega)]
theorem qz_none (p n x : Nat) (hn : 1 ≤ n) : ∀ r, (∀ i, i < r * p → x.testBit i = false) → qz p n x r = 0
  | 0, _ => rfl
  | r + 1, h => by
    have h1 := qz_none p n x hn r (fun i hi => h i (by rw [Nat.succ_mul]; omega))
    have h2 : bsum p (dg p x r) ≤ bsum p 0 := bsum_mono p _ _ (fun i hi hx => by
      rw [dg_bit, h _ (by rw [Nat.succ_mul]; omega)] at hx
      simp at hx)
    rw [bsum_zero] at h2
    simp only [qz]
    rw [h1, if_neg (by omega)]
/-- In how many regions two quorums may miss one another but for witnesses. -/
def az (p a b w : Nat) : Nat → Nat
  | 0 => 0
  | r + 1 => az p a b w r + if a + b ≤ p + bsum p (dg p w r) then 1 else 0
theorem az_le (p a b w : Nat) : ∀ r, az p a b w r ≤ r
  | 0 => Nat.le_refl _
  | r + 1 => by have := az_le p a b w r; simp only [az]; split <;> omega
/-- What a set hasn't, and the witnesses. -/
def oth (m w x : Nat) : Nat := (2 ^ m - 1 - x % 2 ^ m) ||| (w % 2 ^ m)
theorem oth_bit (m w x i : Nat) : (oth m w x).testBit i = (decide (i < m) && (!x.testBit i || w.testBit i)) := by
  unfold oth
  have hlt : x % 2 ^ m < 2 ^ m := Nat.mod_lt _ (Nat.two_pow_pos m)
  rw [Nat.testBit_or, show 2 ^ m - 1 - x % 2 ^ m = 2 ^ m - (x % 2 ^ m + 1) from by omega, Nat.testBit_two_pow_sub_succ hlt, Nat.testBit_mod_two_pow, Nat.testBit_mod_two_pow]
  cases decide (i < m) <;> simp
/-- One region: both quorums' nodes, but for witnesses, can't be there where they'd be more than there are. -/
def one (p : Nat) : Bool := (List.range (2 ^ p)).all fun x => (List.range (2 ^ p)).all fun w => (List.range (p + 1)).all fun a => (List.range (p + 1)).all fun b =>
  !(decide (a ≤ bsum p x) && decide (b ≤ bsum p (oth p w x))) || decide (a + b ≤ p + bsum p w)
def two (p : Nat) : Bool := (List.range (2 ^ p)).all fun w => (List.range (p + 1)).all fun a => (List.range (p + 1)).all fun b =>
  !(decide (a + b ≤ p + bsum p w)) || (List.range (2 ^ p)).any fun x => decide (a ≤ bsum p x) && decide (b ≤ bsum p (oth p w x))
theorem one_ok : one 1 = true ∧ one 2 = true ∧ one 3 = true ∧ one 4 = true := by decide +kernel
theorem two_ok : two 1 = true ∧ two 2 = true ∧ two 3 = true ∧ two 4 = true := by decide +kernel
theorem one_any {p : Nat} (h1 : 1 ≤ p) (h4 : p ≤ 4) : one p = true := by
  obtain ⟨a, b, c, d⟩ := one_ok
  have : p = 1 ∨ p = 2 ∨ p = 3 ∨ p = 4 := by omega
  rcases this with rfl | rfl | rfl | rfl <;> assumption
theorem two_any {p : Nat} (h1 : 1 ≤ p) (h4 : p ≤ 4) : two p = true := by
  obtain ⟨a, b, c, d⟩ := two_ok
  have : p = 1 ∨ p = 2 ∨ p = 3 ∨ p = 4 := by omega
  rcases this with rfl | rfl | rfl | rfl <;> assumption
theorem one_use {p : Nat} (h1 : 1 ≤ p) (h4 : p ≤ 4) {x w a b : Nat} (hx : x < 2 ^ p) (hw : w < 2 ^ p) (ha : a ≤ bsum p x) (hb : b ≤ bsum p (oth p w x)) : a + b ≤ p + bsum p w := by
  have h := one_any h1 h4
  unfold one at h
  simp only [List.all_eq_true, List.mem_range] at h
  have la := bsum_le p x
  have lb := bsum_le p (oth p w x)
  have := h x hx w hw a (by omega) b (by omega)
  simpa [ha, hb] using this
theorem two_use {p : Nat} (h1 : 1 ≤ p) (h4 : p ≤ 4) {w a b : Nat} (hw : w < 2 ^ p) (la : a ≤ p) (lb : b ≤ p) (h : a + b ≤ p + bsum p w) : ∃ x, x < 2 ^ p ∧ a ≤ bsum p x ∧ b ≤ bsum p (oth p w x) := by
  have h2 := two_any h1 h4
  unfold two at h2
  simp only [List.all_eq_true, List.mem_range] at h2
  have := h2 w hw a (by omega) b (by omega)
  simpa [h] using this
theorem dg_oth (p m w x r : Nat) (h : r * p + p ≤ m) : dg p (oth m w x) r = oth p (dg p w r) (dg p x r) := by
  apply Nat.eq_of_testBit_eq
  intro i
  rw [dg_bit, oth_bit, oth_bit, dg_bit, dg_bit]
  by_cases hi : i < p
  · have : r * p + i < m := by omega
    simp [hi, this]
  · simp [hi]
/-- No two quorums, of which one has nothing of the other but witnesses, where there are too few regions apart. -/
theorem miss (p : Nat) (h1 : 1 ≤ p) (h4 : p ≤ 4) (a b w x m : Nat) : ∀ r, r * p ≤ m → qz p a x r + qz p b (oth m w x) r ≤ r + az p a b w r
  | 0, _ => Nat.le_refl _
  | r + 1, h => by
    rw [Nat.succ_mul] at h
    have ih := miss p h1 h4 a b w x m r (by omega)
    simp only [qz, az]
    rw [dg_oth p m w x r h]
    have hu := @one_use p h1 h4 (dg p x r) (dg p w r) a b (dg_lt _ _ _) (dg_lt _ _ _)
    by_cases ha : a ≤ bsum p (dg p x r)
    · by_cases hb : b ≤ bsum p (oth p (dg p w r) (dg p x r))
      · rw [if_pos ha, if_pos hb, if_pos (hu ha hb)]; omega
      · rw [if_pos ha, if_neg hb]; omega
    · rw [if_neg ha]; split <;> split <;> omega
theorem dg_cat (p x y q r : Nat) (hx : x < 2 ^ (q * p)) (hr : r < q) : dg p (y * 2 ^ (q * p) + x) r = dg p x r := by
  apply Nat.eq_of_testBit_eq
  intro i
  rw [dg_bit, dg_bit]
  by_cases hi : i < p
  · have : r * p + i < q * p := by
      have : (r + 1) * p ≤ q * p := Nat.mul_le_mul_right _ hr
      rw [Nat.succ_mul] at this; omega
    rw [Nat.mul_comm, Nat.testBit_two_pow_mul_add _ hx, if_pos this]
  · simp [hi]
theorem dg_top (p x y q : Nat) (hx : x < 2 ^ (q * p)) (hy : y < 2 ^ p) : dg p (y * 2 ^ (q * p) + x) q = y := by
  unfold dg
  rw [Nat.add_comm, Nat.add_mul_div_right _ _ (Nat.two_pow_pos _), Nat.div_eq_of_lt hx, Nat.zero_add, Nat.mod_eq_of_lt hy]
theorem qz_cat (p n x y q : Nat) (hx : x < 2 ^ (q * p)) : ∀ r, r ≤ q → qz p n (y * 2 ^ (q * p) + x) r = qz p n x r
  | 0, _ => rfl
  | r + 1, h => by simp only [qz]; rw [qz_cat p n x y q hx r (by omega), dg_cat p x y q r hx (by omega)]
theorem oth_cat (p n w x y q m : Nat) (hx : x < 2 ^ (q * p)) (hm : q * p ≤ m) : ∀ r, r ≤ q → qz p n (oth m w (y * 2 ^ (q * p) + x)) r = qz p n (oth (q * p) w x) r
  | 0, _ => rfl
  | r + 1, h => by
    have : (r + 1) * p ≤ q * p := Nat.mul_le_mul_right _ h
    rw [Nat.succ_mul] at this
    simp only [qz]
    rw [oth_cat p n w x y q m hx hm r (by omega), dg_oth p m w _ r (by omega), dg_oth p (q * p) w _ r this, dg_cat p x y q r hx (by omega)]
/-- Where there are regions enough apart, there are such quorums. -/
theorem meet (p : Nat) (h1 : 1 ≤ p) (h4 : p ≤ 4) (a b w : Nat) (ha : a ≤ p) (hb : b ≤ p) : ∀ r f s, f ≤ r → s ≤ r → f + s ≤ r + az p a b w r → ∃ x, x < 2 ^ (r * p) ∧ f ≤ qz p a x r ∧ s ≤ qz p b (oth (r * p) w x) r
  | 0, f, s, hf, hs, _ => ⟨0, by simp, by simp [qz]; omega, by simp [qz]; omega⟩
  | r + 1, f, s, hf, hs, h => by
    have build : ∀ f' s' y, f' ≤ r → s' ≤ r → f' + s' ≤ r + az p a b w r → y < 2 ^ p → f ≤ f' + (if a ≤ bsum p y then 1 else 0) → s ≤ s' + (if b ≤ bsum p (oth p (dg p w r) y) then 1 else 0) →
        ∃ x, x < 2 ^ ((r + 1) * p) ∧ f ≤ qz p a x (r + 1) ∧ s ≤ qz p b (oth ((r + 1) * p) w x) (r + 1) := by
      intro f' s' y hf' hs' hh hy h5 h6
      obtain ⟨x, hx, g1, g2⟩ := meet p h1 h4 a b w ha hb r f' s' hf' hs' hh
      refine ⟨y * 2 ^ (r * p) + x, ?_, ?_, ?_⟩
      · rw [Nat.succ_mul, Nat.pow_add]
        have : (y + 1) * 2 ^ (r * p) ≤ 2 ^ p * 2 ^ (r * p) := Nat.mul_le_mul_right _ hy
        rw [Nat.succ_mul] at this
        rw [Nat.mul_comm (2 ^ (r * p))]; omega
      · simp only [qz]
        rw [qz_cat p a x y r hx r (Nat.le_refl _), dg_top p x y r hx hy]; omega
      · simp only [qz]
        rw [oth_cat p b w x y r ((r + 1) * p) hx (by rw [Nat.succ_mul]; omega) r (Nat.le_refl _), dg_oth p ((r + 1) * p) w _ r (by rw [Nat.succ_mul]; omega), dg_top p x y r hx hy]; omega
    have haz := az_le p a b w r
    have hfull : bsum p (2 ^ p - 1) = p := by
      have : p = 1 ∨ p = 2 ∨ p = 3 ∨ p = 4 := by omega
      rcases this with rfl | rfl | rfl | rfl <;> decide
    have hpow := Nat.two_pow_pos p
    simp only [az] at h
    by_cases hap : a + b ≤ p + bsum p (dg p w r)
    · obtain ⟨y, hy, g1, g2⟩ := two_use h1 h4 (dg_lt p w r) ha hb hap
      rw [if_pos hap] at h
      exact build (f - 1) (s - 1) y (by omega) (by omega) (by omega) hy (by rw [if_pos g1]; omega) (by rw [if_pos g2]; omega)
    · rw [if_neg hap] at h
      by_cases hF : 0 < f ∧ s ≤ r
      · exact build (f - 1) s (2 ^ p - 1) (by omega) (by omega) (by omega) (by omega) (by rw [hfull, if_pos ha]; omega) (by omega)
      · have hfo : b ≤ bsum p (oth p (dg p w r) 0) := by
          have : bsum p (2 ^ p - 1) ≤ bsum p (oth p (dg p w r) 0) := bsum_mono p _ _ (fun i hi _ => by rw [oth_bit]; simp [hi])
          omega
        exact build f (s - 1) 0 (by omega) (by omega) (by omega) hpow (by omega) (by rw [if_pos hfo]; omega)
theorem az_comm (p a b w : Nat) : ∀ r, az p a b w r = az p b a w r
  | 0 => rfl
  | r + 1 => by simp only [az]; rw [az_comm p a b w r, Nat.add_comm a b]

end Go.Proofs.Ytbldphmnpangiaa
