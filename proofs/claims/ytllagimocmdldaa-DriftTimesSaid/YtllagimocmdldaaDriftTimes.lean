/- For every rate and every time Longer and Shorter return what the reference returns, and Check reports exactly the rates that are none; no conditions. -/
import Derived.Test.YtllagimocmdldaaDrift
import Derived.Test.YtllagimocmdldaaPLongerx1
import Derived.Test.YtllagimocmdldaaPShorterx1
import Derived.Test.YtllagimocmdldaaRows
import Derived.WalkKit
import Derived.ProofKit
import Derived.OpenShut
import Derived.ShutString
import Derived.ChangeOld
import Derived.Below
import Derived.SizedLaws
namespace Go.Proofs.Ytllagimocmdldaa
open Go.RowKit PDriftRises Go.Proofs.YtllagimocmdldaaW.PrintWords Go.Proofs.YtllagimocmdldaaW.PrintMore
open PLonger (chatelaineref04_Longer.f chatelaineref04_Longer.l0 chatelaineref04_Good.f chatelaineref04_within.f)
open PShorter (chatelaineref04_Shorter.f chatelaineref04_Shorter.l0)
theorem good_yes {p q : Int} (h : Gd p q) : chatelaineref04_Good.f p q = some true := by
  obtain ⟨a, b, c, d⟩ := h
  unfold chatelaineref04_Good.f
  rw [if_pos (by omega), if_pos (by omega), if_pos (by omega), w64 (x := p + 3) (by omega) (by omega), Int.tdiv_eq_ediv_of_nonneg (by omega), w64 (by omega) (by omega)]
  rw [decide_eq_true (by omega)]
theorem good_no {p q : Int} (h : ¬ Gd p q) : chatelaineref04_Good.f p q = some false := by
  unfold chatelaineref04_Good.f
  by_cases a : q ≥ 1
  · rw [if_pos a]
    by_cases b : p ≥ q
    · rw [if_pos b]
      by_cases c : p ≤ 1000
      · rw [if_pos c, w64 (x := p + 3) (by omega) (by omega), Int.tdiv_eq_ediv_of_nonneg (by omega), w64 (by omega) (by omega)]
        by_cases d : (p + 3) / 4 ≤ q
        · exact absurd ⟨by omega, by omega, by omega, by omega⟩ h
        · rw [decide_eq_false d]
      · rw [if_neg c]
    · rw [if_neg b]
  · rw [if_neg a]
theorem refwithin_eq (t : Int) : chatelaineref04_within.f t = some (wn t) := by
  unfold chatelaineref04_within.f
  by_cases a : t < 0
  · rw [if_pos a, show wn t = 0 from by unfold wn mx mn; omega]
  rw [if_neg a]
  by_cases b : t > 1099511627776
  · rw [if_pos b, show wn t = 1099511627776 from by unfold wn mx mn; omega]
  rw [if_neg b, wn_id (by omega) (by omega)]
theorem tdiv_two (s : Nat) : Int.tdiv ((s : Nat) : Int) 2 = ((s / 2 : Nat) : Int) := by
  rw [Int.tdiv_eq_ediv_of_nonneg (by omega)]; omega
theorem longer_loop (p q T A : Int) (q1 : 1 ≤ q) (q2 : q ≤ 1000) (p1 : 1 ≤ p) (p2 : p ≤ 1000) (t0 : 0 ≤ T) (t1 : T ≤ 1099511627776)
    (hA : ∀ m, 0 ≤ m → (m * q < T * p ↔ m < A)) : ∀ (d : Nat) (k : Nat) (n : Int), d ≤ 43 → 0 ≤ n → n ≤ A → n ≤ 35184372088832 → A < n + 2 * (2 ^ d : Nat) → n + 2 * (2 ^ d : Nat) ≤ 35184372088832 → d + 1 < k →
    chatelaineref04_Longer.l0 k p q T n ((2 ^ d : Nat) : Int) = some A := by
  obtain ⟨mt0, mt1⟩ := mul_bd t0 t1 (b := p) (B := 1000) (by omega) p2
  intro d
  induction d with
  | zero =>
    intro k n _ n0 nA nb hA1 _ hk
    obtain ⟨k, rfl⟩ : ∃ m, k = m + 2 := ⟨k - 2, by omega⟩
    obtain ⟨m0, m1⟩ := mul_bd n0 nb (b := q) (B := 1000) (by omega) q2
    have hn := hA n n0
    simp only [chatelaineref04_Longer.l0]
    rw [if_pos (by decide), w64 (x := n + ((2 ^ 0 : Nat) : Int)) (by simp; omega) (by simp; omega), w64 (x := n + ((2 ^ 0 : Nat) : Int) - 1) (by simp; omega) (by simp; omega),
      show n + ((2 ^ 0 : Nat) : Int) - 1 = n from by simp, w64 (x := n * q) (by omega) (by omega), w64 (x := T * p) (by omega) (by omega), tdiv_two,
      show ((2 ^ 0 / 2 : Nat) : Int) = 0 from rfl, w64 (x := 0) (by decide) (by decide)]
    simp only [show ¬ ((0 : Int) > 0) from by decide, if_false]
    simp at hA1
    by_cases hc : n * q < T * p
    · rw [if_pos hc]; simp; have := hn.1 hc; omega
    · rw [if_neg hc]; simp; have : ¬ n < A := fun h => hc (hn.2 h); omega
  | succ d ih =>
    intro k n hd n0 nA nb hA1 hb hk
    obtain ⟨k, rfl⟩ : ∃ m, k = m + 1 := ⟨k - 1, by omega⟩
    have hpow : (2 ^ (d + 1) : Nat) = 2 * 2 ^ d := by rw [Nat.pow_succ]; omega
    have hpos : 0 < (2 ^ d : Nat) := Nat.pos_of_ne_zero (by simp)
    have hle : (2 ^ d : Nat) ≤ 2 ^ 43 := Nat.pow_le_pow_right (by decide) (by omega)
    have hle' : (2 ^ d : Nat) ≤ 8796093022208 := hle
    rw [hpow] at hA1 hb ⊢
    generalize (2 ^ d : Nat) = s at *
    have hn := hA (n + (2 * s : Nat) - 1) (by omega)
    obtain ⟨m0, m1⟩ := mul_bd (a := n + (2 * s : Nat) - 1) (A := 35184372088832) (by omega) (by omega) (b := q) (B := 1000) (by omega) q2
    simp only [chatelaineref04_Longer.l0]
    rw [if_pos (by omega), w64 (x := n + ((2 * s : Nat) : Int)) (by omega) (by omega), w64 (x := n + ((2 * s : Nat) : Int) - 1) (by omega) (by omega),
      w64 (x := (n + ((2 * s : Nat) : Int) - 1) * q) (by omega) (by omega), w64 (x := T * p) (by omega) (by omega), tdiv_two, show (2 * s / 2 : Nat) = s from by omega, w64 (x := ((s : Nat) : Int)) (by omega) (by omega)]
    by_cases hc : (n + ((2 * s : Nat) : Int) - 1) * q < T * p
    · rw [if_pos hc]
      have := hn.1 hc
      exact ih k _ (by omega) (by omega) (by omega) (by omega) (by omega) (by omega) (by omega)
    · rw [if_neg hc]
      have : ¬ n + ((2 * s : Nat) : Int) - 1 < A := fun h => hc (hn.2 h)
      exact ih k _ (by omega) (by omega) (by omega) (by omega) (by omega) (by omega) (by omega)
theorem shorter_loop (p q T A : Int) (q1 : 1 ≤ q) (q2 : q ≤ 1000) (p1 : 1 ≤ p) (p2 : p ≤ 1000) (t0 : 0 ≤ T) (t1 : T ≤ 1099511627776)
    (hA : ∀ m, 0 ≤ m → (m * p ≤ T * q ↔ m ≤ A)) : ∀ (d : Nat) (k : Nat) (n : Int), d ≤ 43 → 0 ≤ n → n ≤ A → n ≤ 35184372088832 → A < n + 2 * (2 ^ d : Nat) → n + 2 * (2 ^ d : Nat) ≤ 35184372088832 → d + 1 < k →
    chatelaineref04_Shorter.l0 k p q T n ((2 ^ d : Nat) : Int) = some A := by
  obtain ⟨mt0, mt1⟩ := mul_bd t0 t1 (b := q) (B := 1000) (by omega) q2
  intro d
  induction d with
  | zero =>
    intro k n _ n0 nA nb hA1 _ hk
    obtain ⟨k, rfl⟩ : ∃ m, k = m + 2 := ⟨k - 2, by omega⟩
    simp at hA1
    obtain ⟨m0, m1⟩ := mul_bd (a := n + 1) (A := 35184372088833) (by omega) (by omega) (b := p) (B := 1000) (by omega) p2
    have hn := hA (n + 1) (by omega)
    simp only [chatelaineref04_Shorter.l0]
    rw [if_pos (by decide), show n + ((2 ^ 0 : Nat) : Int) = n + 1 from by simp, w64 (x := n + 1) (by omega) (by omega), w64 (x := (n + 1) * p) (by omega) (by omega), w64 (x := T * q) (by omega) (by omega), tdiv_two,
      show ((2 ^ 0 / 2 : Nat) : Int) = 0 from rfl, w64 (x := 0) (by decide) (by decide)]
    simp only [show ¬ ((0 : Int) > 0) from by decide, if_false]
    by_cases hc : (n + 1) * p ≤ T * q
    · rw [if_pos hc]; simp; have := hn.1 hc; omega
    · rw [if_neg hc]; simp; have : ¬ n + 1 ≤ A := fun h => hc (hn.2 h); omega
  | succ d ih =>
    intro k n hd n0 nA nb hA1 hb hk
    obtain ⟨k, rfl⟩ : ∃ m, k = m + 1 := ⟨k - 1, by omega⟩
    have hpow : (2 ^ (d + 1) : Nat) = 2 * 2 ^ d := by rw [Nat.pow_succ]; omega
    have hpos : 0 < (2 ^ d : Nat) := Nat.pos_of_ne_zero (by simp)
    have hle : (2 ^ d : Nat) ≤ 2 ^ 43 := Nat.pow_le_pow_right (by decide) (by omega)
    have hle' : (2 ^ d : Nat) ≤ 8796093022208 := hle
    rw [hpow] at hA1 hb ⊢
    generalize (2 ^ d : Nat) = s at *
    have hn := hA (n + (2 * s : Nat)) (by omega)
    obtain ⟨m0, m1⟩ := mul_bd (a := n + (2 * s : Nat)) (A := 35184372088832) (by omega) (by omega) (b := p) (B := 1000) (by omega) p2
    simp only [chatelaineref04_Shorter.l0]
    rw [if_pos (by omega), w64 (x := n + ((2 * s : Nat) : Int)) (by omega) (by omega),
      w64 (x := (n + ((2 * s : Nat) : Int)) * p) (by omega) (by omega), w64 (x := T * q) (by omega) (by omega), tdiv_two, show (2 * s / 2 : Nat) = s from by omega, w64 (x := ((s : Nat) : Int)) (by omega) (by omega)]
    by_cases hc : (n + ((2 * s : Nat) : Int)) * p ≤ T * q
    · rw [if_pos hc]
      have := hn.1 hc
      exact ih k _ (by omega) (by omega) (by omega) (by omega) (by omega) (by omega) (by omega)
    · rw [if_neg hc]
      have : ¬ n + ((2 * s : Nat) : Int) ≤ A := fun h => hc (hn.2 h)
      exact ih k _ (by omega) (by omega) (by omega) (by omega) (by omega) (by omega) (by omega)
theorem reflonger_yes {p q : Int} (h : Gd p q) (t : Int) : chatelaineref04_Longer.f 50 p q t = some ((wn t * p + q - 1) / q) := by
  have hg := good_yes h
  obtain ⟨a, b, c, d⟩ := h
  have h0 := wn_lo t
  have h1 := wn_hi t
  have mp : 0 ≤ wn t * p := Int.mul_nonneg h0 (by omega)
  have m4 : wn t * p ≤ wn t * (4 * q) := Int.mul_le_mul_of_nonneg_left d h0
  have m5 : wn t * (4 * q) = (4 * wn t) * q := by rw [← Int.mul_assoc, Int.mul_comm (wn t) 4]
  unfold chatelaineref04_Longer.f
  rw [refwithin_eq]; simp only [Option.bind_some]
  rw [hg]; simp only [Option.bind_some, if_true]
  refine longer_loop p q (wn t) ((wn t * p + q - 1) / q) a (by omega) (by omega) c h0 h1 (fun m _ => ?_) 43 50 0 (by decide) (by decide) (Int.ediv_nonneg (by omega) (by omega)) (by decide) ?_ (by decide) (by decide)
  · rw [show (m < (wn t * p + q - 1) / q ↔ m + 1 ≤ (wn t * p + q - 1) / q) from by omega, Int.le_ediv_iff_mul_le (by omega), Int.add_mul]
    omega
  · have : (wn t * p + q - 1) / q ≤ 4 * wn t + 1 := by
      have := Int.ediv_le_ediv (a := wn t * p + q - 1) (b := (4 * wn t + 1) * q) (c := q) (by omega) (by rw [Int.add_mul]; omega)
      rwa [Int.mul_ediv_cancel _ (by omega)] at this
    have e : (2 ^ 43 : Nat) = 8796093022208 := by decide
    rw [e]; omega
theorem refshorter_yes {p q : Int} (h : Gd p q) (t : Int) : chatelaineref04_Shorter.f 50 p q t = some (wn t * q / p) := by
  have hg := good_yes h
  obtain ⟨a, b, c, d⟩ := h
  have h0 := wn_lo t
  have h1 := wn_hi t
  have mp : 0 ≤ wn t * q := Int.mul_nonneg h0 (by omega)
  have m4 : wn t * q ≤ wn t * p := Int.mul_le_mul_of_nonneg_left b h0
  unfold chatelaineref04_Shorter.f
  rw [show PShorter.chatelaineref04_within.f t = some (wn t) from refwithin_eq t]; simp only [Option.bind_some]
  rw [show PShorter.chatelaineref04_Good.f p q = some true from hg]; simp only [Option.bind_some, if_true]
  refine shorter_loop p q (wn t) (wn t * q / p) a (by omega) (by omega) c h0 h1 (fun m _ => ?_) 40 50 0 (by decide) (by decide) (Int.ediv_nonneg (by omega) (by omega)) (by decide) ?_ (by decide) (by decide)
  · rw [Int.le_ediv_iff_mul_le (by omega)]
  · have : wn t * q / p ≤ wn t := by
      have := Int.ediv_le_ediv (a := wn t * q) (b := wn t * p) (c := p) (by omega) m4
      rwa [Int.mul_ediv_cancel _ (by omega)] at this
    have e : (2 ^ 40 : Nat) = 1099511627776 := by decide
    rw [e]; omega

theorem c17y {p q : Int} (h : Gd p q) (w : World) : Calls Try.prog 17 #[.int .i64 p, .int .i64 q] w fun e w' => e = .returned (.bool true) ∧ Below w.heap.size w w' := ofDrawn (PLonger.chatelaineref04_Good.calls p q true w (good_yes h))
theorem c17n {p q : Int} (h : ¬ Gd p q) (w : World) : Calls Try.prog 17 #[.int .i64 p, .int .i64 q] w fun e w' => e = .returned (.bool false) ∧ Below w.heap.size w w' := ofDrawn (PLonger.chatelaineref04_Good.calls p q false w (good_no h))
theorem c19y {p q : Int} (h : Gd p q) (t : Int) (w : World) : Calls Try.prog 19 #[.int .i64 p, .int .i64 q, .int .i64 t] w fun e w' => e = .returned (.int .i64 ((wn t * p + q - 1) / q)) ∧ Below w.heap.size w w' := ofDrawn (PLonger.chatelaineref04_Longer.calls 50 p q t _ w (reflonger_yes h t))
theorem c19n {p q : Int} (h : ¬ Gd p q) (t : Int) (w : World) : Calls Try.prog 19 #[.int .i64 p, .int .i64 q, .int .i64 t] w fun e w' => e = .returned (.int .i64 (wn t)) ∧ Below w.heap.size w w' := ofDrawn (PLonger.chatelaineref04_Longer.calls 50 p q t (wn t) w (by
  unfold chatelaineref04_Longer.f; rw [refwithin_eq]; simp only [Option.bind_some]; rw [good_no h]; simp))
theorem c21y {p q : Int} (h : Gd p q) (t : Int) (w : World) : Calls Try.prog 21 #[.int .i64 p, .int .i64 q, .int .i64 t] w fun e w' => e = .returned (.int .i64 (wn t * q / p)) ∧ Below w.heap.size w w' := ofDrawn (PShorter.chatelaineref04_Shorter.calls 50 p q t _ w (refshorter_yes h t))
theorem c21n {p q : Int} (h : ¬ Gd p q) (t : Int) (w : World) : Calls Try.prog 21 #[.int .i64 p, .int .i64 q, .int .i64 t] w fun e w' => e = .returned (.int .i64 (wn t)) ∧ Below w.heap.size w w' := ofDrawn (PShorter.chatelaineref04_Shorter.calls 50 p q t (wn t) w (by
  unfold chatelaineref04_Shorter.f; rw [show PShorter.chatelaineref04_within.f t = some (wn t) from refwithin_eq t]; simp only [Option.bind_some]; rw [show PShorter.chatelaineref04_Good.f p q = some false from good_no h]; simp))
set_option maxHeartbeats 1000000 in
set_option maxRecDepth 100000 in
theorem times_yes (p q t : Int) (w : World) (h0 : Gd p q) : Calls Try.prog 3 #[.int .i64 p, .int .i64 q, .int .i64 t] w fun e w' => e = .returned (.bool true) ∧ Below w.heap.size w w' := by
  have h := Lib.hid h0; clear h0
  go_enter Try.func3, Try.ntmps3
  have HB0 := Lib.hid (Below.refl w.heap.size w)
  go_wp2_with fail
  refine (c15 _).mono ?_
  rintro e w1 ⟨rfl, hb⟩
  have HB1 := Lib.hid (bstep HB0.out hb)
  clear HB0 hb
  have bx2_r := Lib.hid (Bx.mk' (w := w1) (cs := #[.int .i64 p, .int .i64 q]) (t := 24))
  have HB2 := Lib.hid (balloc HB1.out (.cells #[.int .i64 p, .int .i64 q] 24))
  clear HB1
  have k_r_0 := bx2_r.out.at 0 rfl
  have k_r_1 := bx2_r.out.at 1 rfl
  go_wp2_with fail
  refine (c16y h.out _).mono ?_
  rintro e w3 ⟨rfl, hb⟩
  have bx3_r := Lib.hid (bx2_r.out.keep hb)
  clear bx2_r
  have HB3 := Lib.hid (bstep HB2.out hb)
  clear HB2 hb
  clear k_r_0
  clear k_r_1
  have k_r_0 := bx3_r.out.at 0 rfl
  have k_r_1 := bx3_r.out.at 1 rfl
  go_wp2_with fail
  refine (c17y h.out _).mono ?_
  rintro e w4 ⟨rfl, hb⟩
  have bx4_r := Lib.hid (bx3_r.out.keep hb)
  clear bx3_r
  have HB4 := Lib.hid (bstep HB3.out hb)
  clear HB3 hb
  clear k_r_0
  clear k_r_1
  have k_r_0 := bx4_r.out.at 0 rfl
  have k_r_1 := bx4_r.out.at 1 rfl
  go_wp2_with fail
  refine (c16y h.out _).mono ?_
  rintro e w5 ⟨rfl, hb⟩
  have bx5_r := Lib.hid (bx4_r.out.keep hb)
  clear bx4_r
  have HB5 := Lib.hid (bstep HB4.out hb)
  clear HB4 hb
  clear k_r_0
  clear k_r_1
  have k_r_0 := bx5_r.out.at 0 rfl
  have k_r_1 := bx5_r.out.at 1 rfl
  go_wp2_with fail
  refine (c18y h.out t _).mono ?_
  rintro e w6 ⟨rfl, hb⟩
  have bx6_r := Lib.hid (bx5_r.out.keep hb)
  clear bx5_r
  have HB6 := Lib.hid (bstep HB5.out hb)
  clear HB5 hb
  clear k_r_0
  clear k_r_1
  have k_r_0 := bx6_r.out.at 0 rfl
  have k_r_1 := bx6_r.out.at 1 rfl
  go_wp2_with fail
  refine (c19y h.out t _).mono ?_
  rintro e w7 ⟨rfl, hb⟩
  have bx7_r := Lib.hid (bx6_r.out.keep hb)
  clear bx6_r
  have HB7 := Lib.hid (bstep HB6.out hb)
  clear HB6 hb
  clear k_r_0
  clear k_r_1
  have k_r_0 := bx7_r.out.at 0 rfl
  have k_r_1 := bx7_r.out.at 1 rfl
  go_wp2_with fail
  refine (c20y h.out t _).mono ?_
  rintro e w8 ⟨rfl, hb⟩
  have bx8_r := Lib.hid (bx7_r.out.keep hb)
  clear bx7_r
  have HB8 := Lib.hid (bstep HB7.out hb)
  clear HB7 hb
  clear k_r_0
  clear k_r_1
  have k_r_0 := bx8_r.out.at 0 rfl
  have k_r_1 := bx8_r.out.at 1 rfl
  go_wp2_with fail
  refine (c21y h.out t _).mono ?_
  rintro e w9 ⟨rfl, hb⟩
  have bx9_r := Lib.hid (bx8_r.out.keep hb)
  clear bx8_r
  have HB9 := Lib.hid (bstep HB8.out hb)
  clear HB8 hb
  clear k_r_0
  clear k_r_1
  have k_r_0 := bx9_r.out.at 0 rfl
  have k_r_1 := bx9_r.out.at 1 rfl
  go_wp2_with fail
  go_ret
  exact ⟨rfl, HB9.out⟩

set_option maxHeartbeats 1000000 in
set_option maxRecDepth 100000 in
theorem times_no (p q t : Int) (w : World) (h0 : ¬ Gd p q) : Calls Try.prog 3 #[.int .i64 p, .int .i64 q, .int .i64 t] w fun e w' => e = .returned (.bool true) ∧ Below w.heap.size w w' := by
  have h := Lib.hid h0; clear h0
  go_enter Try.func3, Try.ntmps3
  have HB0 := Lib.hid (Below.refl w.heap.size w)
  go_wp2_with fail
  refine (c15 _).mono ?_
  rintro e w1 ⟨rfl, hb⟩
  have HB1 := Lib.hid (bstep HB0.out hb)
  clear HB0 hb
  have bx2_r := Lib.hid (Bx.mk' (w := w1) (cs := #[.int .i64 p, .int .i64 q]) (t := 24))
  have HB2 := Lib.hid (balloc HB1.out (.cells #[.int .i64 p, .int .i64 q] 24))
  clear HB1
  have k_r_0 := bx2_r.out.at 0 rfl
  have k_r_1 := bx2_r.out.at 1 rfl
  go_wp2_with fail
  refine (c16n h.out _).mono ?_
  rintro e w3 ⟨rfl, hb⟩
  have bx3_r := Lib.hid (bx2_r.out.keep hb)
  clear bx2_r
  have HB3 := Lib.hid (bstep HB2.out hb)
  clear HB2 hb
  clear k_r_0
  clear k_r_1
  have k_r_0 := bx3_r.out.at 0 rfl
  have k_r_1 := bx3_r.out.at 1 rfl
  go_wp2_with fail
  refine (c17n h.out _).mono ?_
  rintro e w4 ⟨rfl, hb⟩
  have bx4_r := Lib.hid (bx3_r.out.keep hb)
  clear bx3_r
  have HB4 := Lib.hid (bstep HB3.out hb)
  clear HB3 hb
  clear k_r_0
  clear k_r_1
  have k_r_0 := bx4_r.out.at 0 rfl
  have k_r_1 := bx4_r.out.at 1 rfl
  go_wp2_with fail
  refine (c16n h.out _).mono ?_
  rintro e w5 ⟨rfl, hb⟩
  have bx5_r := Lib.hid (bx4_r.out.keep hb)
  clear bx4_r
  have HB5 := Lib.hid (bstep HB4.out hb)
  clear HB4 hb
  clear k_r_0
  clear k_r_1
  have k_r_0 := bx5_r.out.at 0 rfl
  have k_r_1 := bx5_r.out.at 1 rfl
  go_wp2_with fail
  refine (c16n h.out _).mono ?_
  rintro e w6 ⟨rfl, hb⟩
  have bx6_r := Lib.hid (bx5_r.out.keep hb)
  clear bx5_r
  have HB6 := Lib.hid (bstep HB5.out hb)
  clear HB5 hb
  clear k_r_0
  clear k_r_1
  have k_r_0 := bx6_r.out.at 0 rfl
  have k_r_1 := bx6_r.out.at 1 rfl
  go_wp2_with fail
  refine (c18n h.out t _).mono ?_
  rintro e w7 ⟨rfl, hb⟩
  have bx7_r := Lib.hid (bx6_r.out.keep hb)
  clear bx6_r
  have HB7 := Lib.hid (bstep HB6.out hb)
  clear HB6 hb
  clear k_r_0
  clear k_r_1
  have k_r_0 := bx7_r.out.at 0 rfl
  have k_r_1 := bx7_r.out.at 1 rfl
  go_wp2_with fail
  refine (c19n h.out t _).mono ?_
  rintro e w8 ⟨rfl, hb⟩
  have bx8_r := Lib.hid (bx7_r.out.keep hb)
  clear bx7_r
  have HB8 := Lib.hid (bstep HB7.out hb)
  clear HB7 hb
  clear k_r_0
  clear k_r_1
  have k_r_0 := bx8_r.out.at 0 rfl
  have k_r_1 := bx8_r.out.at 1 rfl
  go_wp2_with fail
  refine (c20n h.out t _).mono ?_
  rintro e w9 ⟨rfl, hb⟩
  have bx9_r := Lib.hid (bx8_r.out.keep hb)
  clear bx8_r
  have HB9 := Lib.hid (bstep HB8.out hb)
  clear HB8 hb
  clear k_r_0
  clear k_r_1
  have k_r_0 := bx9_r.out.at 0 rfl
  have k_r_1 := bx9_r.out.at 1 rfl
  go_wp2_with fail
  refine (c21n h.out t _).mono ?_
  rintro e w10 ⟨rfl, hb⟩
  have bx10_r := Lib.hid (bx9_r.out.keep hb)
  clear bx9_r
  have HB10 := Lib.hid (bstep HB9.out hb)
  clear HB9 hb
  clear k_r_0
  clear k_r_1
  have k_r_0 := bx10_r.out.at 0 rfl
  have k_r_1 := bx10_r.out.at 1 rfl
  go_wp2_with fail
  go_ret
  exact ⟨rfl, HB10.out⟩

theorem times_any (p q t : Int) (w : World) : Calls Try.prog 3 #[.int .i64 p, .int .i64 q, .int .i64 t] w fun e w' => e = .returned (.bool true) ∧ Below w.heap.size w w' := by
  by_cases h : Gd p q
  · exact times_yes p q t w h
  · exact times_no p q t w h
namespace driftTimes
open Go.ChangeShapes Go.WideShapes Go.ChangeAt Go.RowKit
open Go.ChangeMaps (open_string shut_string)
set_option linter.unusedVariables false
theorem own : ownKnob Try.prog.godebug = none := by kernel_rfl
set_option maxRecDepth 100000 in
theorem lifted (os : Os) (started : os.Started) (H : Type) (enc : TypeId × Value → H) :
    ReturnsInHanded {} Try.checked os 3 .any (Rows.driftTimesSpec.pre6 enc Try.prog Try.f3 Rows.driftTimesRow.domain false) (Rows.driftTimesSpec.post enc Try.prog Try.f3 false true false false) := by
  refine returnsInHanded_of_change_sized (C := Try.checked) own started (by kernel_rfl) Try.func3
    (ChangeSpec.witness6 (enc := enc) (C := Try.checked) false ⟨#[], #[.int .i64 0, .int .i64 0, .int .i64 0], []⟩ 8 (by kernel_rfl) (by kernel_rfl) (by kernel_rfl) (by kernel_rfl)) ?_
  intro W base args ds gs before hval0 hW hcnd hsz0 _
  have hsz : (DataW.weightsEach Try.prog (Try.f3.params.toList ++ Rows.driftTimesSpec.plain.varTypes Try.prog) (ds ++ gs)).all (· ≤ reachBytes) = true := hsz0
  have hval : ∀ (j : Nat) t v, Try.f3.params[j]? = some t → args[j]? = some v → Value.okWide Try.prog W .any base t v := hval0
  have hW' := hW
  obtain ⟨p, q, hA0, hV, rfl, hfz, hnd⟩ := hW
  have hA : DataW.TrodAll enc Try.prog W 0 (fun _ => true) true Try.f3.params.toList args.toList ds p := hA0
  rw [Try.params3] at hA hval hsz
  obtain ⟨v0, vs0, d0, ds0, p0, q0, hargs, rfl, rfl, h0, r0⟩ := trodAll_cons hA
  obtain ⟨v1, vs1, d1, ds1, p1, q1, rfl, rfl, rfl, h1, r1⟩ := trodAll_cons r0
  obtain ⟨v2, vs2, d2, ds2, p2, q2, rfl, rfl, rfl, h2, r2⟩ := trodAll_cons r1
  obtain ⟨rfl, rfl, rfl⟩ := trodAll_nil r2
  obtain rfl : args = #[v0, v1, v2] := by cases args; simp_all
  obtain ⟨rfl, rfl⟩ := trodVars_none hV
  obtain ⟨a0, rfl, rfl, rfl, w0⟩ := open_int Try.underlying3 (hval 0 3 v0 rfl rfl) h0
  obtain ⟨a1, rfl, rfl, rfl, w1⟩ := open_int Try.underlying3 (hval 1 3 v1 rfl rfl) h1
  obtain ⟨a2, rfl, rfl, rfl, w2⟩ := open_int Try.underlying3 (hval 2 3 v2 rfl rfl) h2
  clear hA0 hval0 hsz0
  refine (times_any a0 a1 a2 W).mono fun e W' ⟨he, bel⟩ => ?_
  subst he
  exact ⟨_, rfl, _, _, _, [], _, [], hW', trodAll_mk1 (shut_bool Try.underlying4 _), (trodAll_cons_mk (shut_int Try.underlying3 w0) (trodAll_cons_mk (shut_int Try.underlying3 w1) (trodAll_cons_mk (shut_int Try.underlying3 w2) trodAll_mk0))), rfl, bel.frame _, fun h => by cases h⟩
theorem over : Rows.driftTimesRow.holds Try.pinned (OpenSpec.ofChange Rows.driftTimesSpec) :=
  OpenClaim.holds_of_wide 3 Try.f3 rfl rfl rfl rfl rfl rfl rfl ⟨rfl, rfl, rfl, rfl, rfl⟩ rfl rfl rfl rfl rfl (by kernel_rfl) Try.func3 (by kernel_rfl)
    (of_decide_eq_true (by kernel_rfl)) (by unfold Func.isWrapper; first | (rw [if_pos (by decide +kernel)]; kernel_rfl) | (rw [if_neg (by decide +kernel)]; exact ⟨rfl, rfl⟩))
    (fun os started H enc _ => lifted os started H enc)
theorem proved : Rows.DriftTimesSaid := over
end driftTimes
theorem driftTimes_holds : Rows.DriftTimesSaid := driftTimes.proved

end Go.Proofs.Ytllagimocmdldaa
