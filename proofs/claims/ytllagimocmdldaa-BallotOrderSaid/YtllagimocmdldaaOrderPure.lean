/- Ballots are in order: the law's answer, as numbers; no conditions beyond those that each theorem names. -/
import Derived.Test.YtllagimocmdldaaPBallotOrderx
namespace Go.Proofs.Ytllagimocmdldaa.OrderPure
open Go.RowKit PBallotOrder Go.Proofs.YtllagimocmdldaaW.PrintWords Go.Proofs.YtllagimocmdldaaW.PrintLast Go.Proofs.YtllagimocmdldaaW.PrintMore
theorem w64 {x : Int} (h : -9223372036854775808 ≤ x) (h2 : x ≤ 9223372036854775807) : wrap64 x = x := by unfold wrap64; omega
theorem above_eq (a b c d : Int) : chatelaineref08_Above.f a b c d = some (decide (a > c ∨ a = c ∧ b > d)) := by
  unfold chatelaineref08_Above.f
  by_cases h : a > c
  · rw [if_pos h]; simp [h]
  rw [if_neg h]
  by_cases h1 : a = c
  · rw [if_pos h1]; simp [h1]
  · rw [if_neg h1]; simp [h1]; omega
def cmp2 (a b : Int) : Int := if a < b then -1 else if a > b then 1 else 0
def cmpB (a b c d : Int) : Int := if cmp2 a c = 0 then cmp2 b d else cmp2 a c
theorem compare_eq (k : Nat) (a b c d : Int) : ballot_Compare.f (k + 3) a b c d = some (cmpB a b c d) := by
  have h1 : cmp_Compare_uint64.f a c = some (cmp2 a c) := by
    unfold cmp_Compare_uint64.f cmp_isNaN_uint64.f cmp2
    simp only [bne_self_eq_false, Option.bind_some, Bool.false_eq_true, if_false]; repeat' split
    all_goals rfl
  have h2 : cmp_Compare_int.f b d = some (cmp2 b d) := by
    unfold cmp_Compare_int.f cmp_isNaN_int.f cmp2
    simp only [bne_self_eq_false, Option.bind_some, Bool.false_eq_true, if_false]; repeat' split
    all_goals rfl
  unfold ballot_Compare.f
  rw [h1, h2]; simp only [Option.bind_some]
  unfold cmp_Or_int.f
  have e1 : wrap64 (0 + 1) = 1 := by decide +kernel
  have e2 : wrap64 (1 + 1) = 2 := by decide +kernel
  simp only [cmp_Or_int.l0, List.length_cons, List.length_nil, rd, e1, e2]
  unfold cmpB
  by_cases h : cmp2 a c = 0
  · by_cases h' : cmp2 b d = 0
    · simp [h, h']
    · simp [h, h']
  · simp [h]
theorem cmp2_pos (a b : Int) : cmp2 a b > 0 ↔ b < a := by unfold cmp2; repeat' split <;> omega
theorem cmp2_zero (a b : Int) : cmp2 a b = 0 ↔ a = b := by unfold cmp2; repeat' split <;> omega
theorem cmpB_pos (a b c d : Int) : cmpB a b c d > 0 ↔ c < a ∨ a = c ∧ d < b := by
  unfold cmpB; have := cmp2_pos a c; have := cmp2_pos b d; have := cmp2_zero a c
  split <;> omega
theorem cmpB_zero (a b c d : Int) : cmpB a b c d = 0 ↔ a = c ∧ b = d := by
  unfold cmpB; have := cmp2_zero a c; have := cmp2_zero b d
  split <;> omega
theorem right_eq (C N : Int) : ∃ M, chatelainelaw08_Right.f C N = some (C, M) ∧ 0 ≤ M ∧ M ≤ 11 ∧ (C = 0 → M = 0) := by
  unfold chatelainelaw08_Right.f
  by_cases h : C = 0
  · rw [if_pos h]; exact ⟨0, rfl, by omega, by omega, fun _ => rfl⟩
  · rw [if_neg h]
    have t0 : -12 < Int.tmod N 12 ∧ Int.tmod N 12 < 12 := ⟨Int.lt_tmod_of_pos N (by decide), Int.tmod_lt_of_pos N (by decide)⟩
    rw [w64 (by omega) (by omega), Int.tmod_eq_emod_of_nonneg (by omega)]
    exact ⟨_, rfl, by omega, by omega, fun e => absurd e h⟩
theorem cmp2_rng (a b : Int) : -1 ≤ cmp2 a b ∧ cmp2 a b ≤ 1 := by unfold cmp2; repeat' split <;> omega
theorem cmp2_neg (a b : Int) : cmp2 a b < 0 ↔ a < b := by unfold cmp2; repeat' split <;> omega
theorem cmpB_rng (a b c d : Int) : -1 ≤ cmpB a b c d ∧ cmpB a b c d ≤ 1 := by
  unfold cmpB; have := cmp2_rng a c; have := cmp2_rng b d; split <;> omega
theorem cmpB_neg (a b c d : Int) : cmpB a b c d < 0 ↔ a < c ∨ a = c ∧ b < d := by
  unfold cmpB; have := cmp2_neg a c; have := cmp2_neg b d; have := cmp2_zero a c; split <;> omega
theorem max_step (k : Nat) (l : List S58) (n i : Nat) (p q x y : Int) (hn : n = l.length) (h : i < n) (h9 : n < 1000) (hx : rd_T58 l (i : Int) = ⟨x, y⟩) :
    ballot_Max.l0 (k + 4) l (n : Int) (i : Int) p q = if cmpB x y p q > 0 then ballot_Max.l0 (k + 3) l (n : Int) ((i + 1 : Nat) : Int) x y else ballot_Max.l0 (k + 3) l (n : Int) ((i + 1 : Nat) : Int) p q := by
  rw [ballot_Max.l0, if_pos (by omega), if_pos (by omega), if_pos (by omega), hx, compare_eq k, Option.bind_some, w64 (by omega) (by omega), show (i : Int) + 1 = ((i + 1 : Nat) : Int) from by omega]
theorem max_end (k : Nat) (l : List S58) (n : Nat) (p q : Int) : ballot_Max.l0 (k + 1) l (n : Int) (n : Int) p q = some (p, q) := by
  rw [ballot_Max.l0, if_neg (by omega)]
theorem max_eq (k : Nat) (a b c d e f : Int) (a0 : 0 ≤ a) (b0 : 0 ≤ b) (_ab : a = 0 → b = 0) (c0 : 0 ≤ c) (d0 : 0 ≤ d) (_cd : c = 0 → d = 0) (e0 : 0 ≤ e) (f0 : 0 ≤ f) (_ef : e = 0 → f = 0) :
    ∃ p q, ballot_Max.f (k + 6) [(⟨a, b⟩ : S58), (⟨c, d⟩ : S58), (⟨e, f⟩ : S58)] = some (p, q) ∧ ((p = a ∧ q = b) ∨ (p = c ∧ q = d) ∨ (p = e ∧ q = f)) ∧ (¬ cmpB p q a b < 0) ∧ (¬ cmpB p q c d < 0) ∧ ¬ cmpB p q e f < 0 := by
  simp only [cmpB_neg]
  have s1 := fun p q => max_step (k + 2) [(⟨a, b⟩ : S58), (⟨c, d⟩ : S58), (⟨e, f⟩ : S58)] 3 0 p q a b rfl (by decide) (by decide) rfl
  have s2 := fun p q => max_step (k + 1) [(⟨a, b⟩ : S58), (⟨c, d⟩ : S58), (⟨e, f⟩ : S58)] 3 1 p q c d rfl (by decide) (by decide) rfl
  have s3 := fun p q => max_step k [(⟨a, b⟩ : S58), (⟨c, d⟩ : S58), (⟨e, f⟩ : S58)] 3 2 p q e f rfl (by decide) (by decide) rfl
  have s4 := fun p q => max_end (k + 2) [(⟨a, b⟩ : S58), (⟨c, d⟩ : S58), (⟨e, f⟩ : S58)] 3 p q
  have st : ballot_Max.f (k + 6) [(⟨a, b⟩ : S58), (⟨c, d⟩ : S58), (⟨e, f⟩ : S58)] = ballot_Max.l0 (k + 6) [(⟨a, b⟩ : S58), (⟨c, d⟩ : S58), (⟨e, f⟩ : S58)] ((3 : Nat) : Int) ((0 : Nat) : Int) 0 0 := rfl
  rw [st, s1 0 0]
  by_cases h1 : cmpB a b 0 0 > 0
  · rw [if_pos h1, s2 a b]
    rw [cmpB_pos] at h1
    by_cases h2 : cmpB c d a b > 0
    · rw [if_pos h2, s3 c d]
      rw [cmpB_pos] at h2
      by_cases h3 : cmpB e f c d > 0
      · rw [if_pos h3, s4]; rw [cmpB_pos] at h3; exact ⟨e, f, rfl, by omega, by omega, by omega, by omega⟩
      · rw [if_neg h3, s4]; rw [cmpB_pos] at h3; exact ⟨c, d, rfl, by omega, by omega, by omega, by omega⟩
    · rw [if_neg h2, s3 a b]
      rw [cmpB_pos] at h2
      by_cases h3 : cmpB e f a b > 0
      · rw [if_pos h3, s4]; rw [cmpB_pos] at h3; exact ⟨e, f, rfl, by omega, by omega, by omega, by omega⟩
      · rw [if_neg h3, s4]; rw [cmpB_pos] at h3; exact ⟨a, b, rfl, by omega, by omega, by omega, by omega⟩
  · rw [if_neg h1, s2 0 0]
    rw [cmpB_pos] at h1
    by_cases h2 : cmpB c d 0 0 > 0
    · rw [if_pos h2, s3 c d]
      rw [cmpB_pos] at h2
      by_cases h3 : cmpB e f c d > 0
      · rw [if_pos h3, s4]; rw [cmpB_pos] at h3; exact ⟨e, f, rfl, by omega, by omega, by omega, by omega⟩
      · rw [if_neg h3, s4]; rw [cmpB_pos] at h3; exact ⟨c, d, rfl, by omega, by omega, by omega, by omega⟩
    · rw [if_neg h2, s3 0 0]
      rw [cmpB_pos] at h2
      by_cases h3 : cmpB e f 0 0 > 0
      · rw [if_pos h3, s4]; rw [cmpB_pos] at h3; exact ⟨e, f, rfl, by omega, by omega, by omega, by omega⟩
      · rw [if_neg h3, s4]; rw [cmpB_pos] at h3; exact ⟨0, 0, rfl, by omega, by omega, by omega, by omega⟩
theorem law_true (A B C D E F : Int) (A0 : 0 ≤ A) (C0 : 0 ≤ C) (E0 : 0 ≤ E) (k : Nat) : chatelainelaw08_BallotOrder.f (k + 60) A B C D E F = some true := by
  have ha : chatelainelaw08_awake.f (k + 60) = some true := at_rounds (g := chatelainelaw08_awake.f) chatelainelaw08_awake.mono (show 30 ≤ k + 60 by omega) (by decide +kernel)
  obtain ⟨b, hr1, b0, b1, b2⟩ := right_eq A B
  obtain ⟨d, hr2, d0, d1, d2⟩ := right_eq C D
  obtain ⟨f, hr3, f0, f1, f2⟩ := right_eq E F
  obtain ⟨p, q, hm, hin, g1, g2, g3⟩ := max_eq (k + 53) A b C d E f A0 b0 b2 C0 d0 d2 E0 f0 f2
  have hmax0 : ballot_Max.f (k + 59) ([] : List S58) = some (0, 0) := max_end (k + 58) [] 0 0 0
  have n1 := cmpB_pos A b C d
  have n2 := cmpB_neg A b C d
  have n3 := cmpB_rng A b C d
  have tail : chatelainelaw08_BallotOrder.j0 (k + 60) false A b C d E f = some true := by
    have c1 := compare_eq (k + 56) p q A b
    have c2 := compare_eq (k + 56) p q C d
    have c3 := compare_eq (k + 56) p q E f
    rw [chatelainelaw08_BallotOrder.j0, if_neg (by decide), hm, Option.bind_some]
    simp only []
    rw [c1, c2, c3, hmax0]
    have e0 : (ballot_Ballot_None.f 0 0) = some true := rfl
    by_cases h1 : (p == A && (q == b)) = true
    · rw [if_pos h1, Option.bind_some, if_pos (by omega), Option.bind_some, if_pos (by omega), Option.bind_some, if_pos (by omega), Option.bind_some]; rfl
    · rw [if_neg h1]
      by_cases h2 : (p == C && (q == d)) = true
      · rw [if_pos h2, Option.bind_some, if_pos (by omega), Option.bind_some, if_pos (by omega), Option.bind_some, if_pos (by omega), Option.bind_some]; rfl
      · rw [if_neg h2]
        have h3 : (p == E && (q == f)) = true := by
          simp only [Bool.and_eq_true, beq_iff_eq] at h1 h2 ⊢
          rcases hin with h | h | h
          · exact absurd h h1
          · exact absurd h h2
          · exact h
        rw [if_pos h3, Option.bind_some, if_pos (by omega), Option.bind_some, if_pos (by omega), Option.bind_some, if_pos (by omega), Option.bind_some]; rfl
  have z1 : decide (cmpB A b C d > 0) = decide (A > C ∨ A = C ∧ b > d) := decide_eq_decide.2 (by omega)
  have z2 : decide (cmpB A b C d < 0) = decide (C > A ∨ C = A ∧ d > b) := decide_eq_decide.2 (by omega)
  unfold chatelainelaw08_BallotOrder.f
  rw [ha, Option.bind_some, if_pos rfl, hr1, Option.bind_some, hr2, Option.bind_some, hr3, Option.bind_some]
  simp only []
  rw [compare_eq (k + 57), Option.bind_some, above_eq, Option.bind_some, z1, if_neg (by simp), above_eq, Option.bind_some, z2, if_neg (by simp), if_neg (by omega), if_neg (by omega)]
  unfold ballot_Ballot_None.f
  rw [Option.bind_some, show ((A == 0 && (b == 0)) != (A == 0 && (b == 0))) = false from by simp]
  exact tail

end Go.Proofs.Ytllagimocmdldaa.OrderPure
