/- The walk of DriftWaits, under the facts that its comparisons ask for. -/
import Derived.Test.YtllagimocmdldaaDrift
import Derived.Lib.Hide
import Derived.Outline
import Derived.Deep.QuietTactic
import Derived.BigQuiet
namespace Go.Proofs.Ytllagimocmdldaa
open Go.RowKit PDriftRises Go.Proofs.YtllagimocmdldaaW.PrintWords Go.Proofs.YtllagimocmdldaaW.PrintMore
attribute [local go_sem] max2_int min2_int max_two min_two
set_option linter.unusedVariables false

set_option maxHeartbeats 2000000 in
set_option maxRecDepth 100000 in
theorem waits_not (P Q T X Y p q m t m1 a m2 b : Int) (w : World)
    (hm : (if 1073741824 < T then 1073741824 else T) = m) (ht : (if 0 < m then m else 0) = t) (hm1 : (if 4294967296 < X then 4294967296 else X) = m1) (ha : (if 0 < m1 then m1 else 0) = a) (hm2 : (if 4294967296 < Y then 4294967296 else Y) = m2) (hb_ : (if 0 < m2 then m2 else 0) = b)
    (near : Gives Try.prog 23 #[.int .i64 P, .int .i64 Q] (.agg #[.int .i64 p, .int .i64 q]))
    (chk : Gives Try.prog 16 #[.agg #[.int .i64 p, .int .i64 q]] (.int .i64 0))
    (f1 : Gives Try.prog 24 #[.agg #[.int .i64 p, .int .i64 q], .int .i64 a, .int .i64 b] (.bool false)) (f2 : Gives Try.prog 24 #[.agg #[.int .i64 p, .int .i64 q], .int .i64 b, .int .i64 a] (.bool false)) :
    Calls Try.prog 5 #[.agg #[.int .i64 P, .int .i64 Q, .int .i64 T, .int .i64 X, .int .i64 Y]] w fun e w' => e = .returned (.bool true) ∧ Below w.heap.size w w' := by
  go_enter Try.func5, Try.ntmps5
  have tk := Lib.hid (Tk.start w)
  have tk := Lib.hid (Tk.alloc tk.out #[.int .i64 P, .int .i64 Q, .int .i64 T, .int .i64 X, .int .i64 Y] 33)
  have k0_0 := Tk.at tk.out 0 0 rfl rfl
  have k0_1 := Tk.at tk.out 0 1 rfl rfl
  have k0_2 := Tk.at tk.out 0 2 rfl rfl
  have k0_3 := Tk.at tk.out 0 3 rfl rfl
  have k0_4 := Tk.at tk.out 0 4 rfl rfl
  go_wp2_with (first | (go_at_call 15; with_reducible (refine (c15 _).mono ?_); rintro e w' ⟨rfl, hb⟩; have tk := Lib.hid (Tk.keep tk.out hb); clear hb; have k0_0 := Tk.at tk.out 0 0 rfl rfl; have k0_1 := Tk.at tk.out 0 1 rfl rfl; have k0_2 := Tk.at tk.out 0 2 rfl rfl; have k0_3 := Tk.at tk.out 0 3 rfl rfl; have k0_4 := Tk.at tk.out 0 4 rfl rfl) | (go_at_call 23; with_reducible (refine (Gives.at near _).mono ?_); rintro e w' ⟨rfl, hb⟩; have tk := Lib.hid (Tk.keep tk.out hb); clear hb; have tk := Lib.hid (Tk.alloc tk.out #[.int .i64 p, .int .i64 q] 24); have k0_0 := Tk.at tk.out 0 0 rfl rfl; have k0_1 := Tk.at tk.out 0 1 rfl rfl; have k1_0 := Tk.at tk.out 1 0 rfl rfl; have k1_1 := Tk.at tk.out 1 1 rfl rfl; have k1_2 := Tk.at tk.out 1 2 rfl rfl; have k1_3 := Tk.at tk.out 1 3 rfl rfl; have k1_4 := Tk.at tk.out 1 4 rfl rfl))
  go_quiet (fail)
  have tk := Lib.hid (Tk.drewN tk.out nq)
  have k0_0 := Tk.at tk.out 0 0 rfl rfl
  have k0_1 := Tk.at tk.out 0 1 rfl rfl
  have k1_0 := Tk.at tk.out 1 0 rfl rfl
  have k1_1 := Tk.at tk.out 1 1 rfl rfl
  have k1_2 := Tk.at tk.out 1 2 rfl rfl
  have k1_3 := Tk.at tk.out 1 3 rfl rfl
  have k1_4 := Tk.at tk.out 1 4 rfl rfl
  go_wp2_with (first | (go_at_call 16; with_reducible (refine (Gives.at chk _).mono ?_); rintro e w' ⟨rfl, hb⟩; have tk := Lib.hid (Tk.keep tk.out hb); clear hb; have k0_0 := Tk.at tk.out 0 0 rfl rfl; have k0_1 := Tk.at tk.out 0 1 rfl rfl; have k1_0 := Tk.at tk.out 1 0 rfl rfl; have k1_1 := Tk.at tk.out 1 1 rfl rfl; have k1_2 := Tk.at tk.out 1 2 rfl rfl; have k1_3 := Tk.at tk.out 1 3 rfl rfl; have k1_4 := Tk.at tk.out 1 4 rfl rfl) | (go_at_call 24; with_reducible (refine (Gives.at f1 _).mono ?_); rintro e w' ⟨rfl, hb⟩; have tk := Lib.hid (Tk.keep tk.out hb); clear hb; have k0_0 := Tk.at tk.out 0 0 rfl rfl; have k0_1 := Tk.at tk.out 0 1 rfl rfl; have k1_0 := Tk.at tk.out 1 0 rfl rfl; have k1_1 := Tk.at tk.out 1 1 rfl rfl; have k1_2 := Tk.at tk.out 1 2 rfl rfl; have k1_3 := Tk.at tk.out 1 3 rfl rfl; have k1_4 := Tk.at tk.out 1 4 rfl rfl) | (go_at_call 24; with_reducible (refine (Gives.at f2 _).mono ?_); rintro e w' ⟨rfl, hb⟩; have tk := Lib.hid (Tk.keep tk.out hb); clear hb; have k0_0 := Tk.at tk.out 0 0 rfl rfl; have k0_1 := Tk.at tk.out 0 1 rfl rfl; have k1_0 := Tk.at tk.out 1 0 rfl rfl; have k1_1 := Tk.at tk.out 1 1 rfl rfl; have k1_2 := Tk.at tk.out 1 2 rfl rfl; have k1_3 := Tk.at tk.out 1 3 rfl rfl; have k1_4 := Tk.at tk.out 1 4 rfl rfl))
  go_ret
  exact ⟨rfl, tk.out.1⟩

set_option maxHeartbeats 8000000 in
set_option maxRecDepth 100000 in
theorem waits_fits (P Q T X Y p q m t m1 a m2 b : Int) (w : World)
    (hm : (if 1073741824 < T then 1073741824 else T) = m) (ht : (if 0 < m then m else 0) = t) (hm1 : (if 4294967296 < X then 4294967296 else X) = m1) (ha : (if 0 < m1 then m1 else 0) = a) (hm2 : (if 4294967296 < Y then 4294967296 else Y) = m2) (hb_ : (if 0 < m2 then m2 else 0) = b)
    (near : Gives Try.prog 23 #[.int .i64 P, .int .i64 Q] (.agg #[.int .i64 p, .int .i64 q]))
    (chk : Gives Try.prog 16 #[.agg #[.int .i64 p, .int .i64 q]] (.int .i64 0)) (L S : Int)
    (f1 : Gives Try.prog 24 #[.agg #[.int .i64 p, .int .i64 q], .int .i64 a, .int .i64 b] (.bool true))
    (l1 : Gives Try.prog 18 #[.agg #[.int .i64 p, .int .i64 q], .int .i64 t] (.int .i64 L)) (s1 : Gives Try.prog 20 #[.agg #[.int .i64 p, .int .i64 q], .int .i64 t] (.int .i64 S))
    (c1 : a < L ∨ (L ≤ a ∧ t ≤ b)) (c2 : b < L ∨ (L ≤ b ∧ t ≤ a)) (c3 : a < t ∨ (t ≤ a ∧ S ≤ b)) (c4 : b < t ∨ (t ≤ b ∧ S ≤ a)) :
    Calls Try.prog 5 #[.agg #[.int .i64 P, .int .i64 Q, .int .i64 T, .int .i64 X, .int .i64 Y]] w fun e w' => e = .returned (.bool true) ∧ Below w.heap.size w w' := by
  have c := Lib.hid (And.intro c1 (And.intro c2 (And.intro c3 c4)))
  clear c1 c2 c3 c4
  go_enter Try.func5, Try.ntmps5
  have tk := Lib.hid (Tk.start w)
  have tk := Lib.hid (Tk.alloc tk.out #[.int .i64 P, .int .i64 Q, .int .i64 T, .int .i64 X, .int .i64 Y] 33)
  have k0_0 := Tk.at tk.out 0 0 rfl rfl
  have k0_1 := Tk.at tk.out 0 1 rfl rfl
  have k0_2 := Tk.at tk.out 0 2 rfl rfl
  have k0_3 := Tk.at tk.out 0 3 rfl rfl
  have k0_4 := Tk.at tk.out 0 4 rfl rfl
  go_wp2_with (first | (go_at_call 15; with_reducible (refine (c15 _).mono ?_); rintro e w' ⟨rfl, hb⟩; have tk := Lib.hid (Tk.keep tk.out hb); clear hb; have k0_0 := Tk.at tk.out 0 0 rfl rfl; have k0_1 := Tk.at tk.out 0 1 rfl rfl; have k0_2 := Tk.at tk.out 0 2 rfl rfl; have k0_3 := Tk.at tk.out 0 3 rfl rfl; have k0_4 := Tk.at tk.out 0 4 rfl rfl) | (go_at_call 23; with_reducible (refine (Gives.at near _).mono ?_); rintro e w' ⟨rfl, hb⟩; have tk := Lib.hid (Tk.keep tk.out hb); clear hb; have tk := Lib.hid (Tk.alloc tk.out #[.int .i64 p, .int .i64 q] 24); have k0_0 := Tk.at tk.out 0 0 rfl rfl; have k0_1 := Tk.at tk.out 0 1 rfl rfl; have k1_0 := Tk.at tk.out 1 0 rfl rfl; have k1_1 := Tk.at tk.out 1 1 rfl rfl; have k1_2 := Tk.at tk.out 1 2 rfl rfl; have k1_3 := Tk.at tk.out 1 3 rfl rfl; have k1_4 := Tk.at tk.out 1 4 rfl rfl))
  go_quiet (fail)
  have tk := Lib.hid (Tk.drewN tk.out nq)
  have k0_0 := Tk.at tk.out 0 0 rfl rfl
  have k0_1 := Tk.at tk.out 0 1 rfl rfl
  have k1_0 := Tk.at tk.out 1 0 rfl rfl
  have k1_1 := Tk.at tk.out 1 1 rfl rfl
  have k1_2 := Tk.at tk.out 1 2 rfl rfl
  have k1_3 := Tk.at tk.out 1 3 rfl rfl
  have k1_4 := Tk.at tk.out 1 4 rfl rfl
  obtain ⟨c1, c2, c3, c4⟩ := c.out
  clear c
  rcases c1 with c1 | ⟨c1, d1⟩ <;> rcases c2 with c2 | ⟨c2, d2⟩ <;> rcases c3 with c3 | ⟨c3, d3⟩ <;> rcases c4 with c4 | ⟨c4, d4⟩
  all_goals first
    | (exfalso; omega)
    | (go_wp2_with (first | (go_at_call 16; with_reducible (refine (Gives.at chk _).mono ?_); rintro e w' ⟨rfl, hb⟩; have tk := Lib.hid (Tk.keep tk.out hb); clear hb; have k0_0 := Tk.at tk.out 0 0 rfl rfl; have k0_1 := Tk.at tk.out 0 1 rfl rfl; have k1_0 := Tk.at tk.out 1 0 rfl rfl; have k1_1 := Tk.at tk.out 1 1 rfl rfl; have k1_2 := Tk.at tk.out 1 2 rfl rfl; have k1_3 := Tk.at tk.out 1 3 rfl rfl; have k1_4 := Tk.at tk.out 1 4 rfl rfl) | (go_at_call 24; with_reducible (refine (Gives.at f1 _).mono ?_); rintro e w' ⟨rfl, hb⟩; have tk := Lib.hid (Tk.keep tk.out hb); clear hb; have k0_0 := Tk.at tk.out 0 0 rfl rfl; have k0_1 := Tk.at tk.out 0 1 rfl rfl; have k1_0 := Tk.at tk.out 1 0 rfl rfl; have k1_1 := Tk.at tk.out 1 1 rfl rfl; have k1_2 := Tk.at tk.out 1 2 rfl rfl; have k1_3 := Tk.at tk.out 1 3 rfl rfl; have k1_4 := Tk.at tk.out 1 4 rfl rfl) | (go_at_call 18; with_reducible (refine (Gives.at l1 _).mono ?_); rintro e w' ⟨rfl, hb⟩; have tk := Lib.hid (Tk.keep tk.out hb); clear hb; have k0_0 := Tk.at tk.out 0 0 rfl rfl; have k0_1 := Tk.at tk.out 0 1 rfl rfl; have k1_0 := Tk.at tk.out 1 0 rfl rfl; have k1_1 := Tk.at tk.out 1 1 rfl rfl; have k1_2 := Tk.at tk.out 1 2 rfl rfl; have k1_3 := Tk.at tk.out 1 3 rfl rfl; have k1_4 := Tk.at tk.out 1 4 rfl rfl) | (go_at_call 20; with_reducible (refine (Gives.at s1 _).mono ?_); rintro e w' ⟨rfl, hb⟩; have tk := Lib.hid (Tk.keep tk.out hb); clear hb; have k0_0 := Tk.at tk.out 0 0 rfl rfl; have k0_1 := Tk.at tk.out 0 1 rfl rfl; have k1_0 := Tk.at tk.out 1 0 rfl rfl; have k1_1 := Tk.at tk.out 1 1 rfl rfl; have k1_2 := Tk.at tk.out 1 2 rfl rfl; have k1_3 := Tk.at tk.out 1 3 rfl rfl; have k1_4 := Tk.at tk.out 1 4 rfl rfl)); go_ret; exact ⟨rfl, tk.out.1⟩)

end Go.Proofs.Ytllagimocmdldaa
