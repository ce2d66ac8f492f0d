-- written by a program of this session (wip/gen/print2.sh)
import Derived.Test.YtllagimocmdldaaPBallotOrderx0
import Derived.Test.YtllagimocmdldaaPBallotOrderx1
import Derived.Test.YtllagimocmdldaaPBallotOrderx2
import Derived.Test.YtllagimocmdldaaPBallotOrderx3
import Derived.Test.YtllagimocmdldaaPBallotOrderx4
namespace Go.Proofs.Ytllagimocmdldaa.PBallotOrder
open Go.RowKit Go.Proofs.YtllagimocmdldaaW.PrintWords Go.Proofs.YtllagimocmdldaaW.PrintLast Go.Proofs.YtllagimocmdldaaW.PrintMore
attribute [local go_sem] max2_int min2_int max_two min_two max_three min_three max_four min_four   -- for this text's walks alone
set_option linter.unusedVariables false
set_option linter.unusedSimpArgs false

attribute [local go_sem high] eqA56 eqA58
/-! ### chatelainelaw08_BallotOrder: function 12 -/
def chatelainelaw08_BallotOrder.j0 : Nat → Bool → Int → Int → Int → Int → Int → Int → Option (Bool)
  | 0, _, _, _, _, _, _, _ => none
  | k + 1, x55, x145000, x145001, x146000, x146001, x147000, x147001 => if x55 = true then (some false) else ((ballot_Max.f k (([(⟨x145000, x145001⟩ : S58), (⟨x146000, x146001⟩ : S58), (⟨x147000, x147001⟩ : S58)] : List (S58)))).bind fun bt154 => (if (bt154.1 == x145000 && (bt154.2 == x145001)) = true then ((ballot_Compare.f k bt154.1 bt154.2 x145000 x145001).bind fun t157 => (if t157 ≥ 0 then ((ballot_Compare.f k bt154.1 bt154.2 x146000 x146001).bind fun t158 => (if t158 ≥ 0 then ((ballot_Compare.f k bt154.1 bt154.2 x147000 x147001).bind fun t159 => (if t159 ≥ 0 then ((ballot_Max.f k ([] : List (S58))).bind fun bt160 => ((ballot_Ballot_None.f bt160.1 bt160.2).bind fun t162 => (some t162))) else (some false))) else (some false))) else (some false))) else (if (bt154.1 == x146000 && (bt154.2 == x146001)) = true then ((ballot_Compare.f k bt154.1 bt154.2 x145000 x145001).bind fun t163 => (if t163 ≥ 0 then ((ballot_Compare.f k bt154.1 bt154.2 x146000 x146001).bind fun t164 => (if t164 ≥ 0 then ((ballot_Compare.f k bt154.1 bt154.2 x147000 x147001).bind fun t165 => (if t165 ≥ 0 then ((ballot_Max.f k ([] : List (S58))).bind fun bt166 => ((ballot_Ballot_None.f bt166.1 bt166.2).bind fun t168 => (some t168))) else (some false))) else (some false))) else (some false))) else (if (bt154.1 == x147000 && (bt154.2 == x147001)) = true then ((ballot_Compare.f k bt154.1 bt154.2 x145000 x145001).bind fun t169 => (if t169 ≥ 0 then ((ballot_Compare.f k bt154.1 bt154.2 x146000 x146001).bind fun t170 => (if t170 ≥ 0 then ((ballot_Compare.f k bt154.1 bt154.2 x147000 x147001).bind fun t171 => (if t171 ≥ 0 then ((ballot_Max.f k ([] : List (S58))).bind fun bt172 => ((ballot_Ballot_None.f bt172.1 bt172.2).bind fun t174 => (some t174))) else (some false))) else (some false))) else (some false))) else (some false)))))
def chatelainelaw08_BallotOrder.f (k : Nat) (a0_0 : Int) (a0_1 : Int) (a1_0 : Int) (a1_1 : Int) (a2_0 : Int) (a2_1 : Int) : Option (Bool) := (chatelainelaw08_awake.f k).bind fun t137 => (if t137 = true then ((chatelainelaw08_Right.f a0_0 a0_1).bind fun bt138 => ((chatelainelaw08_Right.f a1_0 a1_1).bind fun bt140 => ((chatelainelaw08_Right.f a2_0 a2_1).bind fun bt142 => ((ballot_Compare.f k bt138.1 bt138.2 bt140.1 bt140.2).bind fun t147 => ((chatelaineref08_Above.f bt138.1 bt138.2 bt140.1 bt140.2).bind fun t148 => (if ((decide (t147 > 0)) != t148) = true then (chatelainelaw08_BallotOrder.j0 k true bt138.1 bt138.2 bt140.1 bt140.2 bt142.1 bt142.2) else ((chatelaineref08_Above.f bt140.1 bt140.2 bt138.1 bt138.2).bind fun t149 => (if ((decide (t147 < 0)) != t149) = true then (chatelainelaw08_BallotOrder.j0 k true bt138.1 bt138.2 bt140.1 bt140.2 bt142.1 bt142.2) else (if t147 < (-1) then (chatelainelaw08_BallotOrder.j0 k true bt138.1 bt138.2 bt140.1 bt140.2 bt142.1 bt142.2) else (if t147 > 1 then (chatelainelaw08_BallotOrder.j0 k true bt138.1 bt138.2 bt140.1 bt140.2 bt142.1 bt142.2) else ((ballot_Ballot_None.f bt138.1 bt138.2).bind fun t150 => (chatelainelaw08_BallotOrder.j0 k (t150 != (bt138.1 == 0 && (bt138.2 == 0))) bt138.1 bt138.2 bt140.1 bt140.2 bt142.1 bt142.2)))))))))))) else (some false))
theorem chatelainelaw08_BallotOrder.mono_l : ∀ k, (∀ y0 y1 y2 y3 y4 y5 y6, LeO (chatelainelaw08_BallotOrder.j0 k y0 y1 y2 y3 y4 y5 y6) (chatelainelaw08_BallotOrder.j0 (k + 1) y0 y1 y2 y3 y4 y5 y6))
  | 0 => fun _ _ _ _ _ _ _ r h => by simp [chatelainelaw08_BallotOrder.j0] at h
  | k + 1 => by
    have ih0 := chatelainelaw08_BallotOrder.mono_l k
    · intro y0 y1 y2 y3 y4 y5 y6
      unfold chatelainelaw08_BallotOrder.j0
      repeat' first
      | (with_reducible exact ih0 _ _ _ _ _ _ _)
      | (with_reducible exact ballot_Compare.mono _ _ _ _ _)
      | (with_reducible exact ballot_Max.mono _ _)
      | (with_reducible exact chatelainelaw08_awake.mono _)
      | (with_reducible exact LeO.refl _)
      | (with_reducible exact LeO.none _)
      | (with_reducible refine LeO.ite ?_ ?_)
      | (with_reducible refine LeO.bind ?_ (fun _ => ?_))
      | exact ih0 _ _ _ _ _ _ _
      | exact ballot_Compare.mono _ _ _ _ _
      | exact ballot_Max.mono _ _
      | exact chatelainelaw08_awake.mono _
      | exact LeO.none _
      | refine LeO.ite ?_ ?_
      | refine LeO.bind ?_ (fun _ => ?_)
theorem chatelainelaw08_BallotOrder.mono : ∀ a0 a1 a2 a3 a4 a5 k, LeO (chatelainelaw08_BallotOrder.f k a0 a1 a2 a3 a4 a5) (chatelainelaw08_BallotOrder.f (k + 1) a0 a1 a2 a3 a4 a5) := by
  intro a0 a1 a2 a3 a4 a5 k
  have ih0 := chatelainelaw08_BallotOrder.mono_l k
  unfold chatelainelaw08_BallotOrder.f
  repeat' first
      | (with_reducible exact ih0 _ _ _ _ _ _ _)
      | (with_reducible exact ballot_Compare.mono _ _ _ _ _)
      | (with_reducible exact ballot_Max.mono _ _)
      | (with_reducible exact chatelainelaw08_awake.mono _)
      | (with_reducible exact LeO.refl _)
      | (with_reducible exact LeO.none _)
      | (with_reducible refine LeO.ite ?_ ?_)
      | (with_reducible refine LeO.bind ?_ (fun _ => ?_))
      | exact ih0 _ _ _ _ _ _ _
      | exact ballot_Compare.mono _ _ _ _ _
      | exact ballot_Max.mono _ _
      | exact chatelainelaw08_awake.mono _
      | exact LeO.none _
      | refine LeO.ite ?_ ?_
      | refine LeO.bind ?_ (fun _ => ?_)
def chatelainelaw08_BallotOrder.T3 : Bool × List (List Nat × List Nat) := (true, [([], []), ([0], [0]), ([], []), ([2, 1], [2]), ([], []), ([4, 3], [4]), ([1, 5, 0, 1], [1]), ([3, 6, 0, 1, 2, 3, 6], [3]), ([5, 7, 0, 1, 2, 3, 4, 5, 6, 7], [5])])
def chatelainelaw08_BallotOrder.B3 : List Nat := [0, 1, 0, 7, 0, 31, 63, 127, 255]
theorem chatelainelaw08_BallotOrder.tab3 : rtab .any (opsOf Try.f12 3) = chatelainelaw08_BallotOrder.T3 := by kernel_rfl
theorem chatelainelaw08_BallotOrder.bits3 : waitsOk chatelainelaw08_BallotOrder.T3.2 chatelainelaw08_BallotOrder.B3 = true := by kernel_rfl
def chatelainelaw08_BallotOrder.T4 : Bool × List (List Nat × List Nat) := (true, [([], []), ([], []), ([], []), ([], []), ([], []), ([], []), ([3, 0, 0, 3, 4, 5], [0, 3]), ([4, 1, 6, 0, 1, 3, 4, 5, 6], [1, 4]), ([5, 2, 7, 0, 1, 2, 3, 4, 5, 6, 7], [2, 5])])
def chatelainelaw08_BallotOrder.B4 : List Nat := [0, 0, 0, 0, 0, 0, 57, 123, 255]
theorem chatelainelaw08_BallotOrder.tab4 : rtab .any (opsOf Try.f12 4) = chatelainelaw08_BallotOrder.T4 := by kernel_rfl
theorem chatelainelaw08_BallotOrder.bits4 : waitsOk chatelainelaw08_BallotOrder.T4.2 chatelainelaw08_BallotOrder.B4 = true := by kernel_rfl
def chatelainelaw08_BallotOrder.T6 : Bool × List (List Nat × List Nat) := (true, [([], []), ([0], [0]), ([], []), ([], []), ([2, 3], [2, 3]), ([1, 4], [1, 4]), ([5, 4], [5]), ([6], [6]), ([7, 6], [6, 7]), ([6], [6]), ([6], [6]), ([9, 10, 6, 6], [6, 9, 10]), ([8, 11, 6], [6, 8, 11]), ([6, 12], [6, 12]), ([13, 11], [13]), ([14], [14]), ([15, 14], [14, 15]), ([14, 16], [14, 16]), ([17, 14], [17]), ([18], [18]), ([19, 18], [18, 19]), ([18, 20], [18, 20]), ([21, 18], [21]), ([22], [22]), ([23, 22, 22], [22, 23]), ([22], [22]), ([22], [22]), ([25, 26, 22], [22, 25, 26]), ([24, 27, 22], [22, 24, 27]), ([22, 28], [22, 28])])
def chatelainelaw08_BallotOrder.B6 : List Nat := [0, 1, 0, 0, 12, 31, 63, 127, 255, 127, 127, 1663, 4095, 8191, 16383, 32767, 65535, 131071, 262143, 524287, 1048575, 2097151, 4194303, 8388607, 16777215, 8388607, 8388607, 109051903, 268435455, 536870911]
theorem chatelainelaw08_BallotOrder.tab6 : rtab .any (opsOf Try.f12 6) = chatelainelaw08_BallotOrder.T6 := by kernel_rfl
theorem chatelainelaw08_BallotOrder.bits6 : waitsOk chatelainelaw08_BallotOrder.T6.2 chatelainelaw08_BallotOrder.B6 = true := by kernel_rfl
end Go.Proofs.Ytllagimocmdldaa.PBallotOrder
