/- Sets of nodes, bit by bit; and the sets that miss one another, counted out. -/
import Derived.Test.YtbldphmnpangiaaGridMath
namespace Go.Proofs.Ytbldphmnpangiaa
/-- The number whose lowest j bits are f's. -/
def ofb (f : Nat → Bool) : Nat → Nat
  | 0 => 0
  | j + 1 => 2 ^ j * (f j).toNat + ofb f j
theorem ofb_lt (f : Nat → Bool) : ∀ j, ofb f j < 2 ^ j
  | 0 => Nat.lt_succ_self 0
  | j + 1 => by
    have := ofb_lt f j
    simp only [ofb]; rw [Nat.pow_succ]; cases f j <;> simp <;> omega
theorem ofb_bit (f : Nat → Bool) : ∀ j i, (ofb f j).testBit i = (decide (i < j) && f i)
  | 0, i => by simp [ofb]
  | j + 1, i => by
    rw [ofb, Nat.testBit_two_pow_mul_add _ (ofb_lt f j), ofb_bit f j i]
    by_cases h : i < j
    · rw [if_pos h, decide_eq_true h, decide_eq_true (Nat.lt_succ_of_lt h)]
    · rw [if_neg h]
      by_cases e : i = j
      · subst e; rw [Nat.sub_self, decide_eq_true (Nat.lt_succ_self _)]; cases f i <;> rfl
      · have h2 : ¬ i < j + 1 := by omega
        obtain ⟨d, hd⟩ : ∃ d, i - j = d + 1 := ⟨i - j - 1, by omega⟩
        rw [hd, decide_eq_false h2, Nat.testBit_succ]; cases f j <;> simp
theorem ofb_all (j : Nat) : ofb (fun n => !(0 : Nat).testBit n) j = 2 ^ j - 1 := by
  apply Nat.eq_of_testBit_eq; intro i
  rw [ofb_bit, Nat.testBit_two_pow_sub_one]; simp
theorem with_math (m w x : Nat) : 2 ^ m - 1 - ofb (fun n => (ofb (fun n => !(ofb (fun n => !x.testBit n) m).testBit n) m).testBit n && (ofb (fun n => !w.testBit n) m).testBit n) m = oth m w x := by
  apply Nat.eq_of_testBit_eq; intro i
  generalize hy : ofb (fun n => (ofb (fun n => !(ofb (fun n => !x.testBit n) m).testBit n) m).testBit n && (ofb (fun n => !w.testBit n) m).testBit n) m = y
  have hl : y < 2 ^ m := hy ▸ ofb_lt _ m
  rw [show 2 ^ m - 1 - y = 2 ^ m - (y + 1) from by omega, Nat.testBit_two_pow_sub_succ hl, oth_bit, ← hy, ofb_bit, ofb_bit, ofb_bit, ofb_bit]
  by_cases h : i < m
  · simp only [h, decide_true, Bool.true_and]; cases x.testBit i <;> cases w.testBit i <;> rfl
  · simp [h]
def anyb (f : Nat → Bool) : Nat → Nat → Bool
  | 0, _ => false
  | d + 1, i => f i || anyb f d (i + 1)
theorem anyb_of (f : Nat → Bool) : ∀ d i x, i ≤ x → x < i + d → f x = true → anyb f d i = true
  | 0, i, x, h1, h2, _ => by omega
  | d + 1, i, x, h1, h2, h3 => by
    rw [anyb]
    by_cases e : i = x
    · subst e; rw [h3]; rfl
    · rw [anyb_of f d (i + 1) x (by omega) (by omega) h3, Bool.or_true]
theorem anyb_no (f : Nat → Bool) : ∀ d i, (∀ x, f x = false) → anyb f d i = false
  | 0, _, _ => rfl
  | d + 1, i, h => by rw [anyb, h, anyb_no f d (i + 1) h]; rfl
/-- Is there a set that is a quorum of the first kind, and the rest with the witnesses one of the second? -/
def both2 (r p w fz fn sz sn : Nat) (x : Nat) : Bool := decide (fz ≤ qz p fn x r) && decide (sz ≤ qz p sn (oth (r * p) w x) r)
theorem both2_any {r p w fz fn sz sn : Nat} (p1 : 1 ≤ p) (p4 : p ≤ 4) (hfz : fz ≤ r) (hsz : sz ≤ r) (hfn : fn ≤ p) (hsn : sn ≤ p) :
    anyb (both2 r p w fz fn sz sn) (2 ^ (r * p)) 0 = decide (fz + sz ≤ r + az p fn sn w r) := by
  by_cases hb : fz + sz ≤ r + az p fn sn w r
  · obtain ⟨x, h1, h2, h3⟩ := meet p p1 p4 fn sn w hfn hsn r fz sz hfz hsz hb
    rw [decide_eq_true hb]
    exact anyb_of _ _ 0 x (by omega) (by omega) (by unfold both2; rw [decide_eq_true h2, decide_eq_true h3]; rfl)
  · rw [decide_eq_false hb]
    refine anyb_no _ _ _ fun x => ?_
    have := miss p p1 p4 fn sn w x (r * p) r (Nat.le_refl _)
    unfold both2
    by_cases h1 : fz ≤ qz p fn x r
    · rw [decide_eq_false (p := sz ≤ _) (by omega), Bool.and_false]
    · rw [decide_eq_false h1, Bool.false_and]
theorem az_none (p w : Nat) (a b : Nat) (h : p + p < a + b) : ∀ r, az p a b w r = 0
  | 0 => rfl
  | r + 1 => by
    have := bsum_le p (dg p w r)
    rw [az, az_none p w a b h r, if_neg (by omega)]
theorem bsum_oh (p : Nat) : bsum p 0 = 0 := bsum_zero p
theorem az_oh (p a b : Nat) (h : p < a + b) : ∀ r, az p a b 0 r = 0
  | 0 => rfl
  | r + 1 => by
    have e : dg p 0 r = 0 := by unfold dg; simp
    rw [az, az_oh p a b h r, e, bsum_zero, if_neg (by omega)]
/-- Two quorums of different kinds meet in a node that is no witness. -/
theorem meets_math {r p w fz fn sz sn a b : Nat} (p1 : 1 ≤ p) (p4 : p ≤ 4) (hm : r * p ≤ 16) (hw : w < 2 ^ 32) (hg : ¬ fz + sz ≤ r + az p fn sn w r) (ha : fz ≤ qz p fn a r) (hb : sz ≤ qz p sn b r) :
    (a &&& b &&& (2 ^ (r * p) - 1)) &&& (4294967295 - w) ≠ 0 := by
  intro h0
  have hi : ∀ i, i < r * p → b.testBit i = true → (oth (r * p) w a).testBit i = true := by
    intro i hi hbi
    have h1 : ((a &&& b &&& (2 ^ (r * p) - 1)) &&& (4294967295 - w)).testBit i = false := by rw [h0]; simp
    rw [Nat.testBit_and, Nat.testBit_and, Nat.testBit_and, Nat.testBit_two_pow_sub_one, hbi, decide_eq_true hi] at h1
    rw [oth_bit, decide_eq_true hi]

    rw [show 4294967295 - w = 2 ^ 32 - (w + 1) from by omega, Nat.testBit_two_pow_sub_succ hw, decide_eq_true (show i < 32 from by omega)] at h1
    revert h1; cases a.testBit i <;> cases w.testBit i <;> simp
  have := qz_mono p sn b (oth (r * p) w a) r hi
  have := miss p p1 p4 fn sn w a (r * p) r (Nat.le_refl _)
  omega

end Go.Proofs.Ytbldphmnpangiaa
