/- The ballot functions' answers as numbers; no conditions beyond those that each theorem names. -/
import Derived.Test.YtllagimocmdldaaPBallotNextx3
namespace Go.Proofs.Ytllagimocmdldaa
open Go.RowKit PBallotNext Go.Proofs.YtllagimocmdldaaW.PrintWords Go.Proofs.YtllagimocmdldaaW.PrintMore
theorem w64 {x : Int} (h : -9223372036854775808 ≤ x) (h2 : x ≤ 9223372036854775807) : wrap64 x = x := by unfold wrap64; omega
theorem wu64 (x : Int) : IntKind.u64.wrap x = x % 18446744073709551616 := by rw [IntKind.wrap_u64]
def nxt (C N n : Int) : Int × Int × Int := if n < 0 ∨ 12 ≤ n then (0, 0, 2) else if 0 < C ∧ N < n then (C, n, 0) else if C = 18446744073709551615 then (0, 0, 19) else (C + 1, n, 0)
theorem nxt_bad {C N n : Int} (h : n < 0 ∨ 12 ≤ n) : nxt C N n = (0, 0, 2) := by unfold nxt; rw [if_pos h]
theorem nxt_same {C N n : Int} (h : 0 ≤ n) (h1 : n < 12) (h2 : 0 < C) (h3 : N < n) : nxt C N n = (C, n, 0) := by unfold nxt; rw [if_neg (by omega), if_pos ⟨h2, h3⟩]
theorem nxt_end {C N n : Int} (h : 0 ≤ n) (h1 : n < 12) (h2 : ¬ (0 < C ∧ N < n)) (h3 : C = 18446744073709551615) : nxt C N n = (0, 0, 19) := by unfold nxt; rw [if_neg (by omega), if_neg h2, if_pos h3]
theorem nxt_up {C N n : Int} (h : 0 ≤ n) (h1 : n < 12) (h2 : ¬ (0 < C ∧ N < n)) (h3 : ¬ C = 18446744073709551615) : nxt C N n = (C + 1, n, 0) := by unfold nxt; rw [if_neg (by omega), if_neg h2, if_neg h3]
theorem next_eq (k : Nat) (C N n : Int) (c0 : 0 ≤ C) (c1 : C ≤ 18446744073709551615) : ballot_Next.f (k + 2) C N n = some (nxt C N n) := by
  unfold ballot_Next.f
  by_cases h : n < 0
  · rw [if_pos h, nxt_bad (.inl h)]; simp only [ballot_Next.j0, if_true]
  rw [if_neg h]
  by_cases h1 : n ≥ 12
  · rw [decide_eq_true h1, nxt_bad (.inr h1)]; simp only [ballot_Next.j0, if_true]
  rw [decide_eq_false h1]
  simp only [ballot_Next.j0, Bool.false_eq_true, if_false]
  by_cases h2 : C > 0
  · rw [if_pos h2]
    by_cases h3 : n > N
    · rw [decide_eq_true h3, nxt_same (by omega) (by omega) h2 h3]; simp only [ballot_Next.j1, if_true]
    · rw [decide_eq_false h3]; simp only [ballot_Next.j1, Bool.false_eq_true, if_false]
      by_cases h4 : C = 18446744073709551615
      · rw [if_pos h4, nxt_end (by omega) (by omega) (by omega) h4]
      · rw [if_neg h4, nxt_up (by omega) (by omega) (by omega) h4, wu64]; congr; omega
  · rw [if_neg h2]; simp only [ballot_Next.j1, Bool.false_eq_true, if_false]; rw [if_neg (by omega), nxt_up (by omega) (by omega) (by omega) (by omega), wu64]; congr; omega
theorem above_eq (a b c d : Int) : chatelaineref08_Above.f a b c d = some (decide (a > c ∨ a = c ∧ b > d)) := by
  unfold chatelaineref08_Above.f
  by_cases h : a > c
  · rw [if_pos h]; simp [h]
  rw [if_neg h]
  by_cases h1 : a = c
  · rw [if_pos h1]; simp [h1]
  · rw [if_neg h1]; simp [h1]; omega
theorem ref_next_eq (k : Nat) (C N n : Int) (c0 : 0 ≤ C) (c1 : C ≤ 18446744073709551615) : chatelaineref08_Next.f (k + 5) C N n = some (nxt C N n) := by
  unfold chatelaineref08_Next.f
  by_cases h : n < 0
  · rw [if_pos h, nxt_bad (.inl h)]; simp only [chatelaineref08_Next.j0, if_true]
  rw [if_neg h]
  by_cases h1 : n > 11
  · rw [decide_eq_true h1, nxt_bad (.inr (by omega))]; simp only [chatelaineref08_Next.j0, if_true]
  rw [decide_eq_false h1]
  simp only [chatelaineref08_Next.j0, Bool.false_eq_true, if_false]
  simp only [chatelaineref08_Next.l0, above_eq, Option.bind_some, wu64]
  rw [if_pos (by decide), if_pos (by omega), show (C + 0 % 18446744073709551616) % 18446744073709551616 = C from by omega]
  have e1 : wrap64 (0 + 1) = 1 := by decide +kernel
  have e2 : wrap64 (1 + 1) = 2 := by decide +kernel
  have e3 : wrap64 (2 + 1) = 3 := by decide +kernel
  simp only [e1, e2, e3]
  by_cases h2 : C > 0
  · rw [if_pos h2]
    by_cases h3 : n > N
    · rw [decide_eq_true (show C > C ∨ True ∧ n > N from .inr ⟨trivial, h3⟩), if_pos rfl, nxt_same (by omega) (by omega) h2 h3]
    · rw [decide_eq_false (show ¬ (C > C ∨ True ∧ n > N) from fun x => by omega), if_neg (by decide), if_pos (by decide)]
      by_cases h4 : C = 18446744073709551615
      · rw [if_neg (by omega), if_pos (by decide), if_neg (by omega), if_neg (by decide), nxt_end (by omega) (by omega) (by omega) h4]
      · rw [show (C + 1 % 18446744073709551616) % 18446744073709551616 = C + 1 from by omega, if_pos (by omega), if_pos (by omega),
          decide_eq_true (show C + 1 > C ∨ C + 1 = C ∧ n > N from .inl (by omega)), if_pos rfl, nxt_up (by omega) (by omega) (by omega) h4]
  · rw [if_neg h2, if_pos (by decide), show (C + 1 % 18446744073709551616) % 18446744073709551616 = C + 1 from by omega, if_pos (by omega), if_pos (by omega),
      decide_eq_true (show C + 1 > C ∨ C + 1 = C ∧ n > N from .inl (by omega)), if_pos rfl, nxt_up (by omega) (by omega) (by omega) (by omega)]
def cmp2 (a b : Int) : Int := if a < b then -1 else if a > b then 1 else 0
def cmpB (a b c d : Int) : Int := if cmp2 a c = 0 then cmp2 b d else cmp2 a c
theorem compare_eq (k : Nat) (a b c d : Int) : ballot_Compare.f (k + 3) a b c d = some (cmpB a b c d) := by
  have h1 : cmp_Compare_uint64.f a c = some (cmp2 a c) := by
    unfold cmp_Compare_uint64.f cmp_isNaN_uint64.f cmp2
    simp only [bne_self_eq_false, Option.bind_some, Bool.false_eq_true, if_false]; repeat' split
    all_goals rfl
  have h2 : cmp_Compare_int.f b d = some (cmp2 b d) := by
    unfold cmp_Compare_int.f cmp_isNaN_int.f cmp2
    simp only [bne_self_eq_false, Option.bind_some, Bool.false_eq_true, if_false]; repeat' split
    all_goals rfl
  unfold ballot_Compare.f
  rw [h1, h2]; simp only [Option.bind_some]
  unfold cmp_Or_int.f
  have e1 : wrap64 (0 + 1) = 1 := by decide +kernel
  have e2 : wrap64 (1 + 1) = 2 := by decide +kernel
  simp only [cmp_Or_int.l0, List.length_cons, List.length_nil, rd, e1, e2]
  unfold cmpB
  by_cases h : cmp2 a c = 0
  · by_cases h' : cmp2 b d = 0
    · simp [h, h']
    · simp [h, h']
  · simp [h]
theorem cmp2_pos (a b : Int) : cmp2 a b > 0 ↔ b < a := by unfold cmp2; repeat' split <;> omega
theorem cmp2_zero (a b : Int) : cmp2 a b = 0 ↔ a = b := by unfold cmp2; repeat' split <;> omega
theorem cmpB_pos (a b c d : Int) : cmpB a b c d > 0 ↔ c < a ∨ a = c ∧ d < b := by
  unfold cmpB; have := cmp2_pos a c; have := cmp2_pos b d; have := cmp2_zero a c
  split <;> omega
theorem cmpB_zero (a b c d : Int) : cmpB a b c d = 0 ↔ a = c ∧ b = d := by
  unfold cmpB; have := cmp2_zero a c; have := cmp2_zero b d
  split <;> omega
theorem right_eq (C N : Int) : ∃ M, chatelainelaw08_Right.f C N = some (C, M) ∧ 0 ≤ M ∧ M ≤ 11 ∧ (C = 0 → M = 0) := by
  unfold chatelainelaw08_Right.f
  by_cases h : C = 0
  · rw [if_pos h]; exact ⟨0, rfl, by omega, by omega, fun _ => rfl⟩
  · rw [if_neg h]
    have t0 : -12 < Int.tmod N 12 ∧ Int.tmod N 12 < 12 := ⟨Int.lt_tmod_of_pos N (by decide), Int.tmod_lt_of_pos N (by decide)⟩
    rw [w64 (by omega) (by omega), Int.tmod_eq_emod_of_nonneg (by omega)]
    exact ⟨_, rfl, by omega, by omega, fun e => absurd e h⟩

end Go.Proofs.Ytllagimocmdldaa
