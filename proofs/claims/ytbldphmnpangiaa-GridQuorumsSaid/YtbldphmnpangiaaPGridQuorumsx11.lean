-- written by a program of this session (wip/gen/print2.sh)
import Derived.Test.YtbldphmnpangiaaPGridQuorumsx0
import Derived.Test.YtbldphmnpangiaaPGridQuorumsx4
import Derived.Test.YtbldphmnpangiaaPGridQuorumsx6
import Derived.Test.YtbldphmnpangiaaPGridQuorumsx9
import Derived.Test.YtbldphmnpangiaaPGridQuorumsx10
namespace Go.Proofs.Ytbldphmnpangiaa.PGridQuorums
open Go.RowKit Go.Proofs.YtbldphmnpangiaaW.PrintWords Go.Proofs.YtbldphmnpangiaaW.PrintLast Go.Proofs.YtbldphmnpangiaaW.PrintMore
attribute [local go_sem] max2_int min2_int max_two min_two max_three min_three max_four min_four   -- for this text's walks alone
set_option linter.unusedVariables false
set_option linter.unusedSimpArgs false

/-! ### chatelainelaw07_GridQuorums: function 9 -/
def chatelainelaw07_GridQuorums.j0 : Nat → Int → Int → Bool → Int → Int → Int → Int → Int → Int → Int → Option (Bool)
  | 0, _, _, _, _, _, _, _, _, _, _ => none
  | k + 1, x1, x2, x33, x193000, x193001, x193002, x193003, x193004, x193005, x193006 => if x33 = true then (some false) else ((grid_Config_IsFirst.f k x193000 x193001 x193002 x193003 x193004 x193005 x193006 x1).bind fun t197 => (if t197 = true then ((grid_Config_IsFirst.f k x193000 x193001 x193002 x193003 x193004 x193005 x193006 (Go.bits .or .u32 x1 x2)).bind fun t198 => (if t198 = true then ((grid_Config_IsSecond.f k x193000 x193001 x193002 x193003 x193004 x193005 x193006 x1).bind fun t199 => (if t199 = true then ((grid_Config_IsSecond.f k x193000 x193001 x193002 x193003 x193004 x193005 x193006 (Go.bits .or .u32 x1 x2)).bind fun t200 => (if t200 = true then ((grid_Config_All.f k x193000 x193001 x193002 x193003 x193004 x193005 x193006).bind fun t201 => ((grid_Config_IsFirst.f k x193000 x193001 x193002 x193003 x193004 x193005 x193006 t201).bind fun t202 => (if t202 = true then ((grid_Config_All.f k x193000 x193001 x193002 x193003 x193004 x193005 x193006).bind fun t203 => ((grid_Config_IsSecond.f k x193000 x193001 x193002 x193003 x193004 x193005 x193006 t203).bind fun t204 => (if t204 = true then ((grid_Config_IsFirst.f k x193000 x193001 x193002 x193003 x193004 x193005 x193006 0).bind fun t205 => (if t205 = true then (some false) else ((grid_Config_IsSecond.f k x193000 x193001 x193002 x193003 x193004 x193005 x193006 0).bind fun t206 => (some (!t206))))) else (some false)))) else (some false)))) else (some false))) else ((grid_Config_All.f k x193000 x193001 x193002 x193003 x193004 x193005 x193006).bind fun t207 => ((grid_Config_IsFirst.f k x193000 x193001 x193002 x193003 x193004 x193005 x193006 t207).bind fun t208 => (if t208 = true then ((grid_Config_All.f k x193000 x193001 x193002 x193003 x193004 x193005 x193006).bind fun t209 => ((grid_Config_IsSecond.f k x193000 x193001 x193002 x193003 x193004 x193005 x193006 t209).bind fun t210 => (if t210 = true then ((grid_Config_IsFirst.f k x193000 x193001 x193002 x193003 x193004 x193005 x193006 0).bind fun t211 => (if t211 = true then (some false) else ((grid_Config_IsSecond.f k x193000 x193001 x193002 x193003 x193004 x193005 x193006 0).bind fun t212 => (some (!t212))))) else (some false)))) else (some false)))))) else (some false))) else ((grid_Config_IsSecond.f k x193000 x193001 x193002 x193003 x193004 x193005 x193006 x1).bind fun t213 => (if t213 = true then ((grid_Config_IsSecond.f k x193000 x193001 x193002 x193003 x193004 x193005 x193006 (Go.bits .or .u32 x1 x2)).bind fun t214 => (if t214 = true then ((grid_Config_All.f k x193000 x193001 x193002 x193003 x193004 x193005 x193006).bind fun t215 => ((grid_Config_IsFirst.f k x193000 x193001 x193002 x193003 x193004 x193005 x193006 t215).bind fun t216 => (if t216 = true then ((grid_Config_All.f k x193000 x193001 x193002 x193003 x193004 x193005 x193006).bind fun t217 => ((grid_Config_IsSecond.f k x193000 x193001 x193002 x193003 x193004 x193005 x193006 t217).bind fun t218 => (if t218 = true then ((grid_Config_IsFirst.f k x193000 x193001 x193002 x193003 x193004 x193005 x193006 0).bind fun t219 => (if t219 = true then (some false) else ((grid_Config_IsSecond.f k x193000 x193001 x193002 x193003 x193004 x193005 x193006 0).bind fun t220 => (some (!t220))))) else (some false)))) else (some false)))) else (some false))) else ((grid_Config_All.f k x193000 x193001 x193002 x193003 x193004 x193005 x193006).bind fun t221 => ((grid_Config_IsFirst.f k x193000 x193001 x193002 x193003 x193004 x193005 x193006 t221).bind fun t222 => (if t222 = true then ((grid_Config_All.f k x193000 x193001 x193002 x193003 x193004 x193005 x193006).bind fun t223 => ((grid_Config_IsSecond.f k x193000 x193001 x193002 x193003 x193004 x193005 x193006 t223).bind fun t224 => (if t224 = true then ((grid_Config_IsFirst.f k x193000 x193001 x193002 x193003 x193004 x193005 x193006 0).bind fun t225 => (if t225 = true then (some false) else ((grid_Config_IsSecond.f k x193000 x193001 x193002 x193003 x193004 x193005 x193006 0).bind fun t226 => (some (!t226))))) else (some false)))) else (some false))))))))
def chatelainelaw07_GridQuorums.f (k : Nat) (a0_0 : Int) (a0_1 : Int) (a0_2 : Int) (a0_3 : Int) (a0_4 : Int) (a0_5 : Int) (a0_6 : Int) (a1 : Int) (a2 : Int) : Option (Bool) := (chatelainelaw07_awake.f k).bind fun t177 => (if t177 = true then ((chatelainelaw07_Right.f k a0_0 a0_1 a0_2 a0_3 a0_4 a0_5 a0_6).bind fun bt178 => ((chatelainelaw07_Own.f bt178.1 bt178.2.1 bt178.2.2.1 bt178.2.2.2.1 bt178.2.2.2.2.1 bt178.2.2.2.2.2.1 bt178.2.2.2.2.2.2).bind fun bt185 => ((grid_Config_IsFirst.f k bt185.1 bt185.2.1 bt185.2.2.1 bt185.2.2.2.1 bt185.2.2.2.2.1 bt185.2.2.2.2.2.1 bt185.2.2.2.2.2.2 a1).bind fun t193 => ((chatelaineref07_Quorum.f k bt178.1 bt178.2.1 bt178.2.2.1 bt178.2.2.2.1 bt178.2.2.2.2.1 bt178.2.2.2.2.2.1 bt178.2.2.2.2.2.2 a1 bt178.2.2.2.1 bt178.2.2.2.2.1).bind fun t194 => (if (t193 != t194) = true then (chatelainelaw07_GridQuorums.j0 k a1 a2 true bt185.1 bt185.2.1 bt185.2.2.1 bt185.2.2.2.1 bt185.2.2.2.2.1 bt185.2.2.2.2.2.1 bt185.2.2.2.2.2.2) else ((grid_Config_IsSecond.f k bt185.1 bt185.2.1 bt185.2.2.1 bt185.2.2.2.1 bt185.2.2.2.2.1 bt185.2.2.2.2.2.1 bt185.2.2.2.2.2.2 a1).bind fun t195 => ((chatelaineref07_Quorum.f k bt178.1 bt178.2.1 bt178.2.2.1 bt178.2.2.2.1 bt178.2.2.2.2.1 bt178.2.2.2.2.2.1 bt178.2.2.2.2.2.2 a1 bt178.2.2.2.2.2.1 bt178.2.2.2.2.2.2).bind fun t196 => (chatelainelaw07_GridQuorums.j0 k a1 a2 (t195 != t196) bt185.1 bt185.2.1 bt185.2.2.1 bt185.2.2.2.1 bt185.2.2.2.2.1 bt185.2.2.2.2.2.1 bt185.2.2.2.2.2.2)))))))) else (some false))
theorem chatelainelaw07_GridQuorums.mono_l : ∀ k, (∀ y0 y1 y2 y3 y4 y5 y6 y7 y8 y9, LeO (chatelainelaw07_GridQuorums.j0 k y0 y1 y2 y3 y4 y5 y6 y7 y8 y9) (chatelainelaw07_GridQuorums.j0 (k + 1) y0 y1 y2 y3 y4 y5 y6 y7 y8 y9))
  | 0 => fun _ _ _ _ _ _ _ _ _ _ r h => by simp [chatelainelaw07_GridQuorums.j0] at h
  | k + 1 => by
    have ih0 := chatelainelaw07_GridQuorums.mono_l k
    · intro y0 y1 y2 y3 y4 y5 y6 y7 y8 y9
      unfold chatelainelaw07_GridQuorums.j0
      repeat' first
      | (with_reducible exact ih0 _ _ _ _ _ _ _ _ _ _)
      | (with_reducible exact chatelainelaw07_Right.mono _ _ _ _ _ _ _ _)
      | (with_reducible exact chatelainelaw07_awake.mono _)
      | (with_reducible exact chatelaineref07_Quorum.mono _ _ _ _ _ _ _ _ _ _ _)
      | (with_reducible exact grid_Config_All.mono _ _ _ _ _ _ _ _)
      | (with_reducible exact grid_Config_IsFirst.mono _ _ _ _ _ _ _ _ _)
      | (with_reducible exact grid_Config_IsSecond.mono _ _ _ _ _ _ _ _ _)
      | (with_reducible exact LeO.refl _)
      | (with_reducible exact LeO.none _)
      | (with_reducible refine LeO.ite ?_ ?_)
      | (with_reducible refine LeO.bind ?_ (fun _ => ?_))
      | exact ih0 _ _ _ _ _ _ _ _ _ _
      | exact chatelainelaw07_Right.mono _ _ _ _ _ _ _ _
      | exact chatelainelaw07_awake.mono _
      | exact chatelaineref07_Quorum.mono _ _ _ _ _ _ _ _ _ _ _
      | exact grid_Config_All.mono _ _ _ _ _ _ _ _
      | exact grid_Config_IsFirst.mono _ _ _ _ _ _ _ _ _
      | exact grid_Config_IsSecond.mono _ _ _ _ _ _ _ _ _
      | exact LeO.none _
      | refine LeO.ite ?_ ?_
      | refine LeO.bind ?_ (fun _ => ?_)
theorem chatelainelaw07_GridQuorums.mono : ∀ a0 a1 a2 a3 a4 a5 a6 a7 a8 k, LeO (chatelainelaw07_GridQuorums.f k a0 a1 a2 a3 a4 a5 a6 a7 a8) (chatelainelaw07_GridQuorums.f (k + 1) a0 a1 a2 a3 a4 a5 a6 a7 a8) := by
  intro a0 a1 a2 a3 a4 a5 a6 a7 a8 k
  have ih0 := chatelainelaw07_GridQuorums.mono_l k
  unfold chatelainelaw07_GridQuorums.f
  repeat' first
      | (with_reducible exact ih0 _ _ _ _ _ _ _ _ _ _)
      | (with_reducible exact chatelainelaw07_Right.mono _ _ _ _ _ _ _ _)
      | (with_reducible exact chatelainelaw07_awake.mono _)
      | (with_reducible exact chatelaineref07_Quorum.mono _ _ _ _ _ _ _ _ _ _ _)
      | (with_reducible exact grid_Config_All.mono _ _ _ _ _ _ _ _)
      | (with_reducible exact grid_Config_IsFirst.mono _ _ _ _ _ _ _ _ _)
      | (with_reducible exact grid_Config_IsSecond.mono _ _ _ _ _ _ _ _ _)
      | (with_reducible exact LeO.refl _)
      | (with_reducible exact LeO.none _)
      | (with_reducible refine LeO.ite ?_ ?_)
      | (with_reducible refine LeO.bind ?_ (fun _ => ?_))
      | exact ih0 _ _ _ _ _ _ _ _ _ _
      | exact chatelainelaw07_Right.mono _ _ _ _ _ _ _ _
      | exact chatelainelaw07_awake.mono _
      | exact chatelaineref07_Quorum.mono _ _ _ _ _ _ _ _ _ _ _
      | exact grid_Config_All.mono _ _ _ _ _ _ _ _
      | exact grid_Config_IsFirst.mono _ _ _ _ _ _ _ _ _
      | exact grid_Config_IsSecond.mono _ _ _ _ _ _ _ _ _
      | exact LeO.none _
      | refine LeO.ite ?_ ?_
      | refine LeO.bind ?_ (fun _ => ?_)
def chatelainelaw07_GridQuorums.T5 : Bool × List (List Nat × List Nat) := (true, [([], []), ([], []), ([0, 1], [0, 1]), ([], []), ([], []), ([], []), ([5], [5]), ([3, 4, 6, 2], [3, 4, 6]), ([2, 7], [2, 7]), ([8, 7], [8]), ([9], [9]), ([9], [9]), ([10, 11, 9, 9], [9, 10, 11]), ([9], [9]), ([9], [9]), ([9], [9]), ([15, 9], [9, 15]), ([13, 14, 16, 12, 9], [9, 13, 14, 16]), ([12, 17, 9], [9, 12, 17]), ([9, 18], [9, 18])])
def chatelainelaw07_GridQuorums.B5 : List Nat := [0, 0, 3, 0, 0, 0, 32, 127, 255, 511, 1023, 1023, 4095, 1023, 1023, 1023, 33791, 131071, 262143, 524287]
theorem chatelainelaw07_GridQuorums.tab5 : rtab .any (opsOf Try.f9 5) = chatelainelaw07_GridQuorums.T5 := by kernel_rfl
theorem chatelainelaw07_GridQuorums.bits5 : waitsOk chatelainelaw07_GridQuorums.T5.2 chatelainelaw07_GridQuorums.B5 = true := by kernel_rfl
def chatelainelaw07_GridQuorums.T7 : Bool × List (List Nat × List Nat) := (true, [([], []), ([], []), ([0, 1], [0, 1]), ([2], [2]), ([3, 2], [3]), ([4], [4]), ([4], [4]), ([4], [4]), ([6, 7, 4], [4, 6, 7]), ([5, 8, 4, 4], [4, 5, 8]), ([4, 9], [4, 9]), ([10, 9], [10]), ([11], [11]), ([11], [11]), ([12, 13, 11, 11], [11, 12, 13]), ([14, 11], [11, 14]), ([15, 14, 11], [11, 15]), ([16], [16]), ([16], [16]), ([16], [16]), ([18, 19, 16], [16, 18, 19]), ([17, 20, 16, 16], [16, 17, 20]), ([16, 21, 11], [11, 16, 21]), ([11, 22], [11, 22]), ([23, 21], [23]), ([24], [24]), ([24], [24]), ([26, 24, 24], [24, 26]), ([25, 27, 27, 24], [24, 25, 27]), ([24, 28], [24, 28]), ([29, 28], [29]), ([30], [30]), ([30], [30]), ([32, 30, 30], [30, 32]), ([31, 33, 33, 30], [30, 31, 33]), ([30, 34], [30, 34]), ([35, 34], [35]), ([36], [36]), ([37, 36, 36], [36, 37]), ([38, 36], [36, 38]), ([36, 39], [36, 39]), ([40, 38], [40]), ([41], [41]), ([42, 41, 41], [41, 42]), ([43, 41], [41, 43]), ([41, 44], [41, 44]), ([45, 43, 0, 1, 2, 3, 4, 5, 6, 7, 8, 9, 10, 11, 12, 13, 14, 15, 16, 17, 18, 19, 20, 21, 22, 23, 24, 25, 26, 27, 28, 29, 30, 31, 32, 33, 34, 35, 36, 37, 38, 39, 40, 41, 42, 43, 44, 45], [45])])
def chatelainelaw07_GridQuorums.B7 : List Nat := [0, 0, 3, 7, 15, 31, 31, 31, 223, 511, 1023, 2047, 4095, 4095, 16383, 32767, 65535, 131071, 131071, 131071, 917503, 2097151, 4194303, 8388607, 16777215, 33554431, 33554431, 100663295, 268435455, 536870911, 1073741823, 2147483647, 2147483647, 6442450943, 17179869183, 34359738367, 68719476735, 137438953471, 274877906943, 549755813887, 1099511627775, 2199023255551, 4398046511103, 8796093022207, 17592186044415, 35184372088831, 70368744177663]
theorem chatelainelaw07_GridQuorums.tab7 : rtab .any (opsOf Try.f9 7) = chatelainelaw07_GridQuorums.T7 := by kernel_rfl
theorem chatelainelaw07_GridQuorums.bits7 : waitsOk chatelainelaw07_GridQuorums.T7.2 chatelainelaw07_GridQuorums.B7 = true := by kernel_rfl
@[reducible] def qm0 : Array Bool := #[false, false, false, false, false, false, false, false, false, false, false, false, false, false, false, false, false, false, false, false]
@[reducible] def qm1 : Array Bool := #[false, true, false, false, false, false, false, false, false, false, false, false, false, false, false, false, false, false, false, false]
@[reducible] def qm2 : Array Bool := #[false, true, false, false, true, false, false, false, false, false, false, false, false, false, false, false, false, false, false, false]
@[reducible] def qm3 : Array Bool := #[false, true, false, false, true, true, false, false, false, false, false, false, false, false, false, false, false, false, false, false]
@[reducible] def qm4 : Array Bool := #[true, true, false, false, true, true, false, false, false, false, false, false, false, false, false, false, false, false, false, false]
@[reducible] def qm5 : Array Bool := #[true, true, false, true, true, true, false, false, false, false, false, false, false, false, false, false, false, false, false, false]
@[reducible] def qm6 : Array Bool := #[true, true, false, true, true, true, true, false, false, false, false, false, false, false, false, false, false, false, false, false]
@[reducible] def qm7 : Array Bool := #[true, true, true, true, true, true, true, false, false, false, false, false, false, false, false, false, false, false, false, false]
@[reducible] def qm8 : Array Bool := #[true, true, true, true, true, true, true, true, false, false, false, false, false, false, false, false, false, false, false, false]
@[reducible] def qm9 : Array Bool := #[true, true, true, true, true, true, true, true, true, false, false, false, false, false, false, false, false, false, false, false]
@[reducible] def qm10 : Array Bool := #[true, true, true, true, true, true, true, true, true, true, false, false, false, false, false, false, false, false, false, false]
@[reducible] def qm17 : Array Bool := #[true, true, true, true, true, true, true, true, true, true, true, true, true, true, true, true, true, false, false, false]
@[reducible] def qm18 : Array Bool := #[true, true, true, true, true, true, true, true, true, true, true, true, true, true, true, true, true, true, false, false]
@[reducible] def qm19 : Array Bool := #[true, true, true, true, true, true, true, true, true, true, true, true, true, true, true, true, true, true, true, false]
@[reducible] def qm20 : Array Bool := #[true, true, true, true, true, true, true, true, true, true, true, true, true, true, true, true, true, true, true, true]
@[reducible] def qm27 : Array Bool := #[false, false, false, false, false, false, false, false, false, false, false, false, false, false, false, false, false, false, false, false, false, false, false, false, false, false, false, false, false, false, false, false, false, false, false, false, false, false, false, false, false, false, false, false, false, false, false]
@[reducible] def qm28 : Array Bool := #[false, true, false, false, false, false, false, false, false, false, false, false, false, false, false, false, false, false, false, false, false, false, false, false, false, false, false, false, false, false, false, false, false, false, false, false, false, false, false, false, false, false, false, false, false, false, false]
@[reducible] def qm29 : Array Bool := #[true, true, false, false, false, false, false, false, false, false, false, false, false, false, false, false, false, false, false, false, false, false, false, false, false, false, false, false, false, false, false, false, false, false, false, false, false, false, false, false, false, false, false, false, false, false, false]
@[reducible] def qm30 : Array Bool := #[true, true, true, false, false, false, false, false, false, false, false, false, false, false, false, false, false, false, false, false, false, false, false, false, false, false, false, false, false, false, false, false, false, false, false, false, false, false, false, false, false, false, false, false, false, false, false]
@[reducible] def qm31 : Array Bool := #[true, true, true, true, false, false, false, false, false, false, false, false, false, false, false, false, false, false, false, false, false, false, false, false, false, false, false, false, false, false, false, false, false, false, false, false, false, false, false, false, false, false, false, false, false, false, false]
@[reducible] def qm32 : Array Bool := #[true, true, true, true, true, false, false, false, false, false, false, false, false, false, false, false, false, false, false, false, false, false, false, false, false, false, false, false, false, false, false, false, false, false, false, false, false, false, false, false, false, false, false, false, false, false, false]
@[reducible] def qm33 : Array Bool := #[true, true, true, true, true, false, true, false, false, false, false, false, false, false, false, false, false, false, false, false, false, false, false, false, false, false, false, false, false, false, false, false, false, false, false, false, false, false, false, false, false, false, false, false, false, false, false]
@[reducible] def qm34 : Array Bool := #[true, true, true, true, true, false, true, true, false, false, false, false, false, false, false, false, false, false, false, false, false, false, false, false, false, false, false, false, false, false, false, false, false, false, false, false, false, false, false, false, false, false, false, false, false, false, false]
@[reducible] def qm35 : Array Bool := #[true, true, true, true, true, false, true, true, true, false, false, false, false, false, false, false, false, false, false, false, false, false, false, false, false, false, false, false, false, false, false, false, false, false, false, false, false, false, false, false, false, false, false, false, false, false, false]
@[reducible] def qm36 : Array Bool := #[true, true, true, true, true, true, true, true, true, false, false, false, false, false, false, false, false, false, false, false, false, false, false, false, false, false, false, false, false, false, false, false, false, false, false, false, false, false, false, false, false, false, false, false, false, false, false]
@[reducible] def qm37 : Array Bool := #[true, true, true, true, true, true, true, true, true, true, false, false, false, false, false, false, false, false, false, false, false, false, false, false, false, false, false, false, false, false, false, false, false, false, false, false, false, false, false, false, false, false, false, false, false, false, false]
@[reducible] def qm38 : Array Bool := #[true, true, true, true, true, true, true, true, true, true, true, false, false, false, false, false, false, false, false, false, false, false, false, false, false, false, false, false, false, false, false, false, false, false, false, false, false, false, false, false, false, false, false, false, false, false, false]
@[reducible] def qm39 : Array Bool := #[true, true, true, true, true, true, true, true, true, true, true, true, false, false, false, false, false, false, false, false, false, false, false, false, false, false, false, false, false, false, false, false, false, false, false, false, false, false, false, false, false, false, false, false, false, false, false]
@[reducible] def qm40 : Array Bool := #[true, true, true, true, true, true, true, true, true, true, true, true, false, true, false, false, false, false, false, false, false, false, false, false, false, false, false, false, false, false, false, false, false, false, false, false, false, false, false, false, false, false, false, false, false, false, false]
@[reducible] def qm41 : Array Bool := #[true, true, true, true, true, true, true, true, true, true, true, true, true, true, false, false, false, false, false, false, false, false, false, false, false, false, false, false, false, false, false, false, false, false, false, false, false, false, false, false, false, false, false, false, false, false, false]
@[reducible] def qm42 : Array Bool := #[true, true, true, true, true, true, true, true, true, true, true, true, true, true, true, false, false, false, false, false, false, false, false, false, false, false, false, false, false, false, false, false, false, false, false, false, false, false, false, false, false, false, false, false, false, false, false]
@[reducible] def qm43 : Array Bool := #[true, true, true, true, true, true, true, true, true, true, true, true, true, true, true, true, false, false, false, false, false, false, false, false, false, false, false, false, false, false, false, false, false, false, false, false, false, false, false, false, false, false, false, false, false, false, false]
@[reducible] def qm44 : Array Bool := #[true, true, true, true, true, true, true, true, true, true, true, true, true, true, true, true, true, false, false, false, false, false, false, false, false, false, false, false, false, false, false, false, false, false, false, false, false, false, false, false, false, false, false, false, false, false, false]
@[reducible] def qm45 : Array Bool := #[true, true, true, true, true, true, true, true, true, true, true, true, true, true, true, true, true, false, true, false, false, false, false, false, false, false, false, false, false, false, false, false, false, false, false, false, false, false, false, false, false, false, false, false, false, false, false]
@[reducible] def qm46 : Array Bool := #[true, true, true, true, true, true, true, true, true, true, true, true, true, true, true, true, true, false, true, true, false, false, false, false, false, false, false, false, false, false, false, false, false, false, false, false, false, false, false, false, false, false, false, false, false, false, false]
@[reducible] def qm47 : Array Bool := #[true, true, true, true, true, true, true, true, true, true, true, true, true, true, true, true, true, false, true, true, true, false, false, false, false, false, false, false, false, false, false, false, false, false, false, false, false, false, false, false, false, false, false, false, false, false, false]
@[reducible] def qm48 : Array Bool := #[true, true, true, true, true, true, true, true, true, true, true, true, true, true, true, true, true, true, true, true, true, false, false, false, false, false, false, false, false, false, false, false, false, false, false, false, false, false, false, false, false, false, false, false, false, false, false]
@[reducible] def qm49 : Array Bool := #[true, true, true, true, true, true, true, true, true, true, true, true, true, true, true, true, true, true, true, true, true, true, false, false, false, false, false, false, false, false, false, false, false, false, false, false, false, false, false, false, false, false, false, false, false, false, false]
@[reducible] def qm50 : Array Bool := #[true, true, true, true, true, true, true, true, true, true, true, true, true, true, true, true, true, true, true, true, true, true, true, false, false, false, false, false, false, false, false, false, false, false, false, false, false, false, false, false, false, false, false, false, false, false, false]
@[reducible] def qm51 : Array Bool := #[true, true, true, true, true, true, true, true, true, true, true, true, true, true, true, true, true, true, true, true, true, true, true, true, false, false, false, false, false, false, false, false, false, false, false, false, false, false, false, false, false, false, false, false, false, false, false]
@[reducible] def qm52 : Array Bool := #[true, true, true, true, true, true, true, true, true, true, true, true, true, true, true, true, true, true, true, true, true, true, true, true, true, false, false, false, false, false, false, false, false, false, false, false, false, false, false, false, false, false, false, false, false, false, false]
@[reducible] def qm53 : Array Bool := #[true, true, true, true, true, true, true, true, true, true, true, true, true, true, true, true, true, true, true, true, true, true, true, true, true, true, false, false, false, false, false, false, false, false, false, false, false, false, false, false, false, false, false, false, false, false, false]
@[reducible] def qm54 : Array Bool := #[true, true, true, true, true, true, true, true, true, true, true, true, true, true, true, true, true, true, true, true, true, true, true, true, true, true, true, false, false, false, false, false, false, false, false, false, false, false, false, false, false, false, false, false, false, false, false]
@[reducible] def qm55 : Array Bool := #[true, true, true, true, true, true, true, true, true, true, true, true, true, true, true, true, true, true, true, true, true, true, true, true, true, true, true, true, false, false, false, false, false, false, false, false, false, false, false, false, false, false, false, false, false, false, false]
@[reducible] def qm56 : Array Bool := #[true, true, true, true, true, true, true, true, true, true, true, true, true, true, true, true, true, true, true, true, true, true, true, true, true, true, true, true, true, false, false, false, false, false, false, false, false, false, false, false, false, false, false, false, false, false, false]
@[reducible] def qm57 : Array Bool := #[true, true, true, true, true, true, true, true, true, true, true, true, true, true, true, true, true, true, true, true, true, true, true, true, true, true, true, true, true, true, false, false, false, false, false, false, false, false, false, false, false, false, false, false, false, false, false]
@[reducible] def qm58 : Array Bool := #[true, true, true, true, true, true, true, true, true, true, true, true, true, true, true, true, true, true, true, true, true, true, true, true, true, true, true, true, true, true, true, false, false, false, false, false, false, false, false, false, false, false, false, false, false, false, false]
@[reducible] def qm59 : Array Bool := #[true, true, true, true, true, true, true, true, true, true, true, true, true, true, true, true, true, true, true, true, true, true, true, true, true, true, true, true, true, true, true, true, false, false, false, false, false, false, false, false, false, false, false, false, false, false, false]
@[reducible] def qm60 : Array Bool := #[true, true, true, true, true, true, true, true, true, true, true, true, true, true, true, true, true, true, true, true, true, true, true, true, true, true, true, true, true, true, true, true, true, false, false, false, false, false, false, false, false, false, false, false, false, false, false]
@[reducible] def qm61 : Array Bool := #[true, true, true, true, true, true, true, true, true, true, true, true, true, true, true, true, true, true, true, true, true, true, true, true, true, true, true, true, true, true, true, true, true, true, false, false, false, false, false, false, false, false, false, false, false, false, false]
@[reducible] def qm62 : Array Bool := #[true, true, true, true, true, true, true, true, true, true, true, true, true, true, true, true, true, true, true, true, true, true, true, true, true, true, true, true, true, true, true, true, true, true, true, false, false, false, false, false, false, false, false, false, false, false, false]
@[reducible] def qm63 : Array Bool := #[true, true, true, true, true, true, true, true, true, true, true, true, true, true, true, true, true, true, true, true, true, true, true, true, true, true, true, true, true, true, true, true, true, true, true, true, false, false, false, false, false, false, false, false, false, false, false]
@[reducible] def qm64 : Array Bool := #[true, true, true, true, true, true, true, true, true, true, true, true, true, true, true, true, true, true, true, true, true, true, true, true, true, true, true, true, true, true, true, true, true, true, true, true, true, false, false, false, false, false, false, false, false, false, false]
@[reducible] def qm65 : Array Bool := #[true, true, true, true, true, true, true, true, true, true, true, true, true, true, true, true, true, true, true, true, true, true, true, true, true, true, true, true, true, true, true, true, true, true, true, true, true, true, false, false, false, false, false, false, false, false, false]
@[reducible] def qm66 : Array Bool := #[true, true, true, true, true, true, true, true, true, true, true, true, true, true, true, true, true, true, true, true, true, true, true, true, true, true, true, true, true, true, true, true, true, true, true, true, true, true, true, false, false, false, false, false, false, false, false]
@[reducible] def qm67 : Array Bool := #[true, true, true, true, true, true, true, true, true, true, true, true, true, true, true, true, true, true, true, true, true, true, true, true, true, true, true, true, true, true, true, true, true, true, true, true, true, true, true, true, false, false, false, false, false, false, false]
@[reducible] def qm68 : Array Bool := #[true, true, true, true, true, true, true, true, true, true, true, true, true, true, true, true, true, true, true, true, true, true, true, true, true, true, true, true, true, true, true, true, true, true, true, true, true, true, true, true, true, false, false, false, false, false, false]
@[reducible] def qm69 : Array Bool := #[true, true, true, true, true, true, true, true, true, true, true, true, true, true, true, true, true, true, true, true, true, true, true, true, true, true, true, true, true, true, true, true, true, true, true, true, true, true, true, true, true, true, false, false, false, false, false]
@[reducible] def qm70 : Array Bool := #[true, true, true, true, true, true, true, true, true, true, true, true, true, true, true, true, true, true, true, true, true, true, true, true, true, true, true, true, true, true, true, true, true, true, true, true, true, true, true, true, true, true, true, false, false, false, false]
@[reducible] def qm71 : Array Bool := #[true, true, true, true, true, true, true, true, true, true, true, true, true, true, true, true, true, true, true, true, true, true, true, true, true, true, true, true, true, true, true, true, true, true, true, true, true, true, true, true, true, true, true, true, false, false, false]
@[reducible] def qm72 : Array Bool := #[true, true, true, true, true, true, true, true, true, true, true, true, true, true, true, true, true, true, true, true, true, true, true, true, true, true, true, true, true, true, true, true, true, true, true, true, true, true, true, true, true, true, true, true, true, false, false]
@[reducible] def qm73 : Array Bool := #[true, true, true, true, true, true, true, true, true, true, true, true, true, true, true, true, true, true, true, true, true, true, true, true, true, true, true, true, true, true, true, true, true, true, true, true, true, true, true, true, true, true, true, true, true, true, false]
@[reducible] def qm74 : Array Bool := #[true, true, true, true, true, true, true, true, true, true, true, true, true, true, true, true, true, true, true, true, true, true, true, true, true, true, true, true, true, true, true, true, true, true, true, true, true, true, true, true, true, true, true, true, true, true, true]
@[reducible] def qm75 : Array Bool := #[true, true, true, true, true, true, true, true, true, true, true, true, true, true, true, true, true, true, false, false, false, false, false, false, false, false, false, false, false, false, false, false, false, false, false, false, false, false, false, false, false, false, false, false, false, false, false]
@[reducible] def qm76 : Array Bool := #[true, true, true, true, true, true, true, true, true, true, true, true, true, true, true, true, true, true, true, false, false, false, false, false, false, false, false, false, false, false, false, false, false, false, false, false, false, false, false, false, false, false, false, false, false, false, false]
@[reducible] def qm77 : Array Bool := #[true, true, true, true, true, true, true, true, true, true, true, true, true, true, true, true, true, true, true, true, false, false, false, false, false, false, false, false, false, false, false, false, false, false, false, false, false, false, false, false, false, false, false, false, false, false, false]
@[reducible] def qm78 : Array Bool := #[true, true, true, true, true, true, false, false, false, false, false, false, false, false, false, false, false, false, false, false, false, false, false, false, false, false, false, false, false, false, false, false, false, false, false, false, false, false, false, false, false, false, false, false, false, false, false]
@[reducible] def qm79 : Array Bool := #[true, true, true, true, true, true, true, false, false, false, false, false, false, false, false, false, false, false, false, false, false, false, false, false, false, false, false, false, false, false, false, false, false, false, false, false, false, false, false, false, false, false, false, false, false, false, false]
@[reducible] def qm80 : Array Bool := #[true, true, true, true, true, true, true, true, false, false, false, false, false, false, false, false, false, false, false, false, false, false, false, false, false, false, false, false, false, false, false, false, false, false, false, false, false, false, false, false, false, false, false, false, false, false, false]
theorem e1_ {α : Type _} (l : List α) (i : Nat) (a : α) : l.toArray.setIfInBounds i a = (l.set i a).toArray := List.setIfInBounds_toArray l i a
theorem e2_ {α : Type _} (x : α) (l : List α) (a : α) : (x :: l).set 0 a = a :: l := rfl
theorem e3_ {α : Type _} (x : α) (l : List α) (n : Nat) (a : α) : (x :: l).set (n + 1) a = x :: l.set n a := rfl
theorem K_ {p : Prop} (h : p) : Aside0 p := Aside0.mk h
theorem bA_ {w : World} {g : Nat} {o : Obj} (h : w.heap[g]? = some o) (o' : Obj) : (w.alloc o').heap[g]? = some o := blk_alloc h o'
theorem bD_ {w : World} {g : Nat} {o : Obj} (h : w.heap[g]? = some o) : w.drew.heap[g]? = some o := h
theorem bN_ {w : World} {g : Nat} {o : Obj} (h : w.heap[g]? = some o) (n : Nat) : (w.drewN n).heap[g]? = some o := h
theorem pA_ {w W : World} (h : Below w.heap.size w W) (o : Obj) : Below w.heap.size w (W.alloc o) := below_alloc h o
theorem pN_ {B : Nat} {w W : World} (h : Below B w W) (n : Nat) : Below B w (W.drewN n) := pw_below_drewN h n
theorem pD_ {base : Nat} {w W : World} (h : Below base w W) : Below base w W.drew := below_drew1 h
theorem bS_ {w W : World} {g j : Nat} {v : Value} (h : Below w.heap.size w W) (hg : w.heap.size ≤ g) : Below w.heap.size w (W.setCell ⟨g, j, none⟩ v) := below_set h hg
set_option maxHeartbeats 8000000 in
set_option maxRecDepth 100000 in
theorem chatelainelaw07_GridQuorums.calls (k : Nat) (a0_0 : Int) (a0_1 : Int) (a0_2 : Int) (a0_3 : Int) (a0_4 : Int) (a0_5 : Int) (a0_6 : Int) (a1 : Int) (a2 : Int) (r : Bool) (w : World) (h : chatelainelaw07_GridQuorums.f k a0_0 a0_1 a0_2 a0_3 a0_4 a0_5 a0_6 a1 a2 = some r) (hr_ : r = true) :
  Calls Try.prog 9 #[.agg #[.int .i64 a0_0, .int .i64 a0_1, .int .u32 a0_2, .int .i64 a0_3, .int .i64 a0_4, .int .i64 a0_5, .int .i64 a0_6], .int .u32 a1, .int .u32 a2] w fun e w' => e = .returned (.bool r) ∧ Below w.heap.size w w' := by
 have hu52:=Try.underlying52
 have hu56:=Try.underlying56
 have hu50:=Try.underlying50
 have HB:=K_ (Below.refl w.heap.size w)
 have H : ((chatelainelaw07_awake.f k).bind fun t177 => (if t177 = true then ((chatelainelaw07_Right.f k a0_0 a0_1 a0_2 a0_3 a0_4 a0_5 a0_6).bind fun bt178 => ((chatelainelaw07_Own.f bt178.1 bt178.2.1 bt178.2.2.1 bt178.2.2.2.1 bt178.2.2.2.2.1 bt178.2.2.2.2.2.1 bt178.2.2.2.2.2.2).bind fun bt185 => ((grid_Config_IsFirst.f k bt185.1 bt185.2.1 bt185.2.2.1 bt185.2.2.2.1 bt185.2.2.2.2.1 bt185.2.2.2.2.2.1 bt185.2.2.2.2.2.2 a1).bind fun t193 => ((chatelaineref07_Quorum.f k bt178.1 bt178.2.1 bt178.2.2.1 bt178.2.2.2.1 bt178.2.2.2.2.1 bt178.2.2.2.2.2.1 bt178.2.2.2.2.2.2 a1 bt178.2.2.2.1 bt178.2.2.2.2.1).bind fun t194 => (if (t193 != t194) = true then (j0 k a1 a2 true bt185.1 bt185.2.1 bt185.2.2.1 bt185.2.2.2.1 bt185.2.2.2.2.1 bt185.2.2.2.2.2.1 bt185.2.2.2.2.2.2) else ((grid_Config_IsSecond.f k bt185.1 bt185.2.1 bt185.2.2.1 bt185.2.2.2.1 bt185.2.2.2.2.1 bt185.2.2.2.2.2.1 bt185.2.2.2.2.2.2 a1).bind fun t195 => ((chatelaineref07_Quorum.f k bt178.1 bt178.2.1 bt178.2.2.1 bt178.2.2.2.1 bt178.2.2.2.2.1 bt178.2.2.2.2.2.1 bt178.2.2.2.2.2.2 a1 bt178.2.2.2.2.2.1 bt178.2.2.2.2.2.2).bind fun t196 => (j0 k a1 a2 (t195 != t196) bt185.1 bt185.2.1 bt185.2.2.1 bt185.2.2.2.1 bt185.2.2.2.2.1 bt185.2.2.2.2.2.1 bt185.2.2.2.2.2.2)))))))) else (some false))) = some r := h
 clear h
 replace H := Option.bind_eq_some_iff.mp H
 obtain ⟨t177, A40, H⟩ := H
 replace H : (if t177 = true then ((chatelainelaw07_Right.f k a0_0 a0_1 a0_2 a0_3 a0_4 a0_5 a0_6).bind fun bt178 => ((chatelainelaw07_Own.f bt178.1 bt178.2.1 bt178.2.2.1 bt178.2.2.2.1 bt178.2.2.2.2.1 bt178.2.2.2.2.2.1 bt178.2.2.2.2.2.2).bind fun bt185 => ((grid_Config_IsFirst.f k bt185.1 bt185.2.1 bt185.2.2.1 bt185.2.2.2.1 bt185.2.2.2.2.1 bt185.2.2.2.2.2.1 bt185.2.2.2.2.2.2 a1).bind fun t193 => ((chatelaineref07_Quorum.f k bt178.1 bt178.2.1 bt178.2.2.1 bt178.2.2.2.1 bt178.2.2.2.2.1 bt178.2.2.2.2.2.1 bt178.2.2.2.2.2.2 a1 bt178.2.2.2.1 bt178.2.2.2.2.1).bind fun t194 => (if (t193 != t194) = true then (j0 k a1 a2 true bt185.1 bt185.2.1 bt185.2.2.1 bt185.2.2.2.1 bt185.2.2.2.2.1 bt185.2.2.2.2.2.1 bt185.2.2.2.2.2.2) else ((grid_Config_IsSecond.f k bt185.1 bt185.2.1 bt185.2.2.1 bt185.2.2.2.1 bt185.2.2.2.2.1 bt185.2.2.2.2.2.1 bt185.2.2.2.2.2.2 a1).bind fun t195 => ((chatelaineref07_Quorum.f k bt178.1 bt178.2.1 bt178.2.2.1 bt178.2.2.2.1 bt178.2.2.2.2.1 bt178.2.2.2.2.2.1 bt178.2.2.2.2.2.2 a1 bt178.2.2.2.2.2.1 bt178.2.2.2.2.2.2).bind fun t196 => (j0 k a1 a2 (t195 != t196) bt185.1 bt185.2.1 bt185.2.2.1 bt185.2.2.2.1 bt185.2.2.2.2.1 bt185.2.2.2.2.2.1 bt185.2.2.2.2.2.2)))))))) else (some false)) = some r := H
 have A4:=K_ A40
 clear A40
 by_cases c5 : t177 = true
 ·
  subst c5
  have H1 : ((chatelainelaw07_Right.f k a0_0 a0_1 a0_2 a0_3 a0_4 a0_5 a0_6).bind fun bt178 => ((chatelainelaw07_Own.f bt178.1 bt178.2.1 bt178.2.2.1 bt178.2.2.2.1 bt178.2.2.2.2.1 bt178.2.2.2.2.2.1 bt178.2.2.2.2.2.2).bind fun bt185 => ((grid_Config_IsFirst.f k bt185.1 bt185.2.1 bt185.2.2.1 bt185.2.2.2.1 bt185.2.2.2.2.1 bt185.2.2.2.2.2.1 bt185.2.2.2.2.2.2 a1).bind fun t193 => ((chatelaineref07_Quorum.f k bt178.1 bt178.2.1 bt178.2.2.1 bt178.2.2.2.1 bt178.2.2.2.2.1 bt178.2.2.2.2.2.1 bt178.2.2.2.2.2.2 a1 bt178.2.2.2.1 bt178.2.2.2.2.1).bind fun t194 => (if (t193 != t194) = true then (j0 k a1 a2 true bt185.1 bt185.2.1 bt185.2.2.1 bt185.2.2.2.1 bt185.2.2.2.2.1 bt185.2.2.2.2.2.1 bt185.2.2.2.2.2.2) else ((grid_Config_IsSecond.f k bt185.1 bt185.2.1 bt185.2.2.1 bt185.2.2.2.1 bt185.2.2.2.2.1 bt185.2.2.2.2.2.1 bt185.2.2.2.2.2.2 a1).bind fun t195 => ((chatelaineref07_Quorum.f k bt178.1 bt178.2.1 bt178.2.2.1 bt178.2.2.2.1 bt178.2.2.2.2.1 bt178.2.2.2.2.2.1 bt178.2.2.2.2.2.2 a1 bt178.2.2.2.2.2.1 bt178.2.2.2.2.2.2).bind fun t196 => (j0 k a1 a2 (t195 != t196) bt185.1 bt185.2.1 bt185.2.2.1 bt185.2.2.2.1 bt185.2.2.2.2.1 bt185.2.2.2.2.2.1 bt185.2.2.2.2.2.2)))))))) = some r := by rw [if_pos rfl] at H; exact H
  clear H
  have H:=H1
  clear H1
  replace H := Option.bind_eq_some_iff.mp H
  obtain ⟨⟨t178, t179, t180, t181, t182, t183, t184⟩, A60, H⟩ := H
  replace H : ((chatelainelaw07_Own.f t178 t179 t180 t181 t182 t183 t184).bind fun bt185 => ((grid_Config_IsFirst.f k bt185.1 bt185.2.1 bt185.2.2.1 bt185.2.2.2.1 bt185.2.2.2.2.1 bt185.2.2.2.2.2.1 bt185.2.2.2.2.2.2 a1).bind fun t193 => ((chatelaineref07_Quorum.f k t178 t179 t180 t181 t182 t183 t184 a1 t181 t182).bind fun t194 => (if (t193 != t194) = true then (j0 k a1 a2 true bt185.1 bt185.2.1 bt185.2.2.1 bt185.2.2.2.1 bt185.2.2.2.2.1 bt185.2.2.2.2.2.1 bt185.2.2.2.2.2.2) else ((grid_Config_IsSecond.f k bt185.1 bt185.2.1 bt185.2.2.1 bt185.2.2.2.1 bt185.2.2.2.2.1 bt185.2.2.2.2.2.1 bt185.2.2.2.2.2.2 a1).bind fun t195 => ((chatelaineref07_Quorum.f k t178 t179 t180 t181 t182 t183 t184 a1 t183 t184).bind fun t196 => (j0 k a1 a2 (t195 != t196) bt185.1 bt185.2.1 bt185.2.2.1 bt185.2.2.2.1 bt185.2.2.2.2.1 bt185.2.2.2.2.2.1 bt185.2.2.2.2.2.2))))))) = some r := H
  have A6:=K_ A60
  clear A60
  replace H := Option.bind_eq_some_iff.mp H
  obtain ⟨⟨t185, t186, t187, t188, t189, t190, t191⟩, A70, H⟩ := H
  replace H : ((grid_Config_IsFirst.f k t185 t186 t187 t188 t189 t190 t191 a1).bind fun t193 => ((chatelaineref07_Quorum.f k t178 t179 t180 t181 t182 t183 t184 a1 t181 t182).bind fun t194 => (if (t193 != t194) = true then (j0 k a1 a2 true t185 t186 t187 t188 t189 t190 t191) else ((grid_Config_IsSecond.f k t185 t186 t187 t188 t189 t190 t191 a1).bind fun t195 => ((chatelaineref07_Quorum.f k t178 t179 t180 t181 t182 t183 t184 a1 t183 t184).bind fun t196 => (j0 k a1 a2 (t195 != t196) t185 t186 t187 t188 t189 t190 t191)))))) = some r := H
  have A7:=K_ A70
  clear A70
  have HC8:=K_ H
  clear H
  go_enter Try.func9, Try.ntmps9
  go_upto_region 5 with (first|((with_reducible refine gate_dst (N := 3) rfl ?_); refine box_event ?hg (N := 3) ?hd (cs := #[.int .i64 a0_0, .int .i64 a0_1, .int .u32 a0_2, .int .i64 a0_3, .int .i64 a0_4, .int .i64 a0_5, .int .i64 a0_6]) (t := 52) ?hr ?_; (case hd => rfl); (case hg => rfl); (case hr => first|(go_simp; done)|(go_simp; rfl)); intro gb176 hg w9 hbox hb; have n0_:=K_ (below_step (by repeat (first|(with_reducible first|exact HB.out|apply pA_|apply pN_|apply pD_)|exact HB.out)) hb); have n1_:=K_ (hbox); have n2_:=K_ ((by rw [hg]; exact (below_size (by repeat (first|(with_reducible first|exact HB.out|apply pA_|apply pN_|apply pD_)|exact HB.out))) : w.heap.size ≤ gb176)); have n3_:=K_ ((by rw [hg]; exact (below_size (by repeat (first|(with_reducible first|exact HB.out|apply pA_|apply pN_|apply pD_)|exact HB.out))) : w.heap.size ≤ gb176)); clear HB; have HB:=n0_; have BK176:=n1_; have GW176:=n2_; have GE176:=n3_; clear n0_ n1_ n2_ n3_; clear hb hbox hg)|((with_reducible refine gate_callee (f := 25) rfl ?_); refine goesL_ (some 8) rfl rfl Try.func25 (by kernel_rfl) rfl #[] rfl (by (try simp only [List.map_toArray, List.map_cons, List.map_nil]); first|done|rfl|(simp only [List.length_drop, List.length_take]; rfl)) ?_; (with_reducible refine (chatelainelaw07_awake.calls k  true _ A4.out).mono ?_); rintro e w10 ⟨rfl, hb⟩; refine ⟨_, rfl, ?_⟩; have n0_:=K_ (blk_below (g := gb176) (o := .cells #[.int .i64 a0_0, .int .i64 a0_1, .int .u32 a0_2, .int .i64 a0_3, .int .i64 a0_4, .int .i64 a0_5, .int .i64 a0_6] 52 (0, 0)) (by (with_reducible repeat (first|refine bN_ ?_ _|refine bD_ ?_|refine bA_ ?_ _)); exact BK176.out) hb); have n1_:=K_ (below_step (by repeat (first|(with_reducible first|exact HB.out|apply pA_|apply pN_|apply pD_|refine bS_ ?_ GE176.out)|exact HB.out)) hb); clear BK176; clear HB; have BK176:=n0_; have HB:=n1_; clear n0_ n1_; (try clear hb); (try clear hb2); (try clear hk); (try clear hi); have hcz11_0 : w10.cell? ⟨gb176, 0, none⟩ = some (.int .i64 a0_0) := (blk_cell BK176.out 0).trans rfl; have hcz11_1 : w10.cell? ⟨gb176, 1, none⟩ = some (.int .i64 a0_1) := (blk_cell BK176.out 1).trans rfl; have hcz11_2 : w10.cell? ⟨gb176, 2, none⟩ = some (.int .u32 a0_2) := (blk_cell BK176.out 2).trans rfl; have hcz11_3 : w10.cell? ⟨gb176, 3, none⟩ = some (.int .i64 a0_3) := (blk_cell BK176.out 3).trans rfl; have hcz11_4 : w10.cell? ⟨gb176, 4, none⟩ = some (.int .i64 a0_4) := (blk_cell BK176.out 4).trans rfl; have hcz11_5 : w10.cell? ⟨gb176, 5, none⟩ = some (.int .i64 a0_5) := (blk_cell BK176.out 5).trans rfl; have hcz11_6 : w10.cell? ⟨gb176, 6, none⟩ = some (.int .i64 a0_6) := (blk_cell BK176.out 6).trans rfl; have hfz11_0:=blk_frozen BK176.out 0; have hfz11_1:=blk_frozen BK176.out 1; have hfz11_2:=blk_frozen BK176.out 2; have hfz11_3:=blk_frozen BK176.out 3; have hfz11_4:=blk_frozen BK176.out 4; have hfz11_5:=blk_frozen BK176.out 5; have hfz11_6:=blk_frozen BK176.out 6)|((with_reducible refine gate_callee (f := 30) rfl ?_); refine goesL_ (some 11) rfl rfl Try.func30 (by kernel_rfl) rfl #[.agg #[.int .i64 a0_0, .int .i64 a0_1, .int .u32 a0_2, .int .i64 a0_3, .int .i64 a0_4, .int .i64 a0_5, .int .i64 a0_6]] rfl (by (try simp only [List.map_toArray, List.map_cons, List.map_nil]); first|done|rfl|(simp only [List.length_drop, List.length_take]; rfl)) ?_; (with_reducible refine (chatelainelaw07_Right.calls k a0_0 a0_1 a0_2 a0_3 a0_4 a0_5 a0_6 t178 t179 t180 t181 t182 t183 t184 _ A6.out).mono ?_); rintro e w12 ⟨rfl, hb⟩; refine ⟨_, rfl, ?_⟩; have n0_:=K_ (blk_below (g := gb176) (o := .cells #[.int .i64 a0_0, .int .i64 a0_1, .int .u32 a0_2, .int .i64 a0_3, .int .i64 a0_4, .int .i64 a0_5, .int .i64 a0_6] 52 (0, 0)) (by (with_reducible repeat (first|refine bN_ ?_ _|refine bD_ ?_|refine bA_ ?_ _)); exact BK176.out) hb); have n1_:=K_ (below_step (by repeat (first|(with_reducible first|exact HB.out|apply pA_|apply pN_|apply pD_|refine bS_ ?_ GE176.out)|exact HB.out)) hb); clear BK176; clear HB; have BK176:=n0_; have HB:=n1_; clear n0_ n1_; (try clear hb); (try clear hb2); (try clear hk); (try clear hi); have hcz13_0 : w12.cell? ⟨gb176, 0, none⟩ = some (.int .i64 a0_0) := (blk_cell BK176.out 0).trans rfl; have hcz13_1 : w12.cell? ⟨gb176, 1, none⟩ = some (.int .i64 a0_1) := (blk_cell BK176.out 1).trans rfl; have hcz13_2 : w12.cell? ⟨gb176, 2, none⟩ = some (.int .u32 a0_2) := (blk_cell BK176.out 2).trans rfl; have hcz13_3 : w12.cell? ⟨gb176, 3, none⟩ = some (.int .i64 a0_3) := (blk_cell BK176.out 3).trans rfl; have hcz13_4 : w12.cell? ⟨gb176, 4, none⟩ = some (.int .i64 a0_4) := (blk_cell BK176.out 4).trans rfl; have hcz13_5 : w12.cell? ⟨gb176, 5, none⟩ = some (.int .i64 a0_5) := (blk_cell BK176.out 5).trans rfl; have hcz13_6 : w12.cell? ⟨gb176, 6, none⟩ = some (.int .i64 a0_6) := (blk_cell BK176.out 6).trans rfl; have hfz13_0:=blk_frozen BK176.out 0; have hfz13_1:=blk_frozen BK176.out 1; have hfz13_2:=blk_frozen BK176.out 2; have hfz13_3:=blk_frozen BK176.out 3; have hfz13_4:=blk_frozen BK176.out 4; have hfz13_5:=blk_frozen BK176.out 5; have hfz13_6:=blk_frozen BK176.out 6)|((with_reducible refine gate_callee (f := 27) rfl ?_); refine goesL_ (some 13) rfl rfl Try.func27 (by kernel_rfl) rfl #[.agg #[.int .i64 t178, .int .i64 t179, .int .u32 t180, .int .i64 t181, .int .i64 t182, .int .i64 t183, .int .i64 t184]] rfl (by (try simp only [List.map_toArray, List.map_cons, List.map_nil]); first|done|rfl|(simp only [List.length_drop, List.length_take]; rfl)) ?_; (with_reducible refine (chatelainelaw07_Own.calls t178 t179 t180 t181 t182 t183 t184 t185 t186 t187 t188 t189 t190 t191 _ A7.out).mono ?_); rintro e w14 ⟨rfl, hb⟩; refine ⟨_, rfl, ?_⟩; have n0_:=K_ (blk_below (g := gb176) (o := .cells #[.int .i64 t178, .int .i64 t179, .int .u32 t180, .int .i64 t181, .int .i64 t182, .int .i64 t183, .int .i64 t184] 52 (0, 0)) (by (with_reducible repeat (first|refine bN_ ?_ _|refine bD_ ?_|refine bA_ ?_ _)); refine blk_put (cs := #[.int .i64 t178, .int .i64 t179, .int .u32 t180, .int .i64 t181, .int .i64 t182, .int .i64 t183, .int .i64 a0_6]) ?_ 6 _ rfl; (with_reducible repeat (first|refine bN_ ?_ _|refine bD_ ?_|refine bA_ ?_ _)); refine blk_put (cs := #[.int .i64 t178, .int .i64 t179, .int .u32 t180, .int .i64 t181, .int .i64 t182, .int .i64 a0_5, .int .i64 a0_6]) ?_ 5 _ rfl; (with_reducible repeat (first|refine bN_ ?_ _|refine bD_ ?_|refine bA_ ?_ _)); refine blk_put (cs := #[.int .i64 t178, .int .i64 t179, .int .u32 t180, .int .i64 t181, .int .i64 a0_4, .int .i64 a0_5, .int .i64 a0_6]) ?_ 4 _ rfl; (with_reducible repeat (first|refine bN_ ?_ _|refine bD_ ?_|refine bA_ ?_ _)); refine blk_put (cs := #[.int .i64 t178, .int .i64 t179, .int .u32 t180, .int .i64 a0_3, .int .i64 a0_4, .int .i64 a0_5, .int .i64 a0_6]) ?_ 3 _ rfl; (with_reducible repeat (first|refine bN_ ?_ _|refine bD_ ?_|refine bA_ ?_ _)); refine blk_put (cs := #[.int .i64 t178, .int .i64 t179, .int .u32 a0_2, .int .i64 a0_3, .int .i64 a0_4, .int .i64 a0_5, .int .i64 a0_6]) ?_ 2 _ rfl; (with_reducible repeat (first|refine bN_ ?_ _|refine bD_ ?_|refine bA_ ?_ _)); refine blk_put (cs := #[.int .i64 t178, .int .i64 a0_1, .int .u32 a0_2, .int .i64 a0_3, .int .i64 a0_4, .int .i64 a0_5, .int .i64 a0_6]) ?_ 1 _ rfl; (with_reducible repeat (first|refine bN_ ?_ _|refine bD_ ?_|refine bA_ ?_ _)); refine blk_put (cs := #[.int .i64 a0_0, .int .i64 a0_1, .int .u32 a0_2, .int .i64 a0_3, .int .i64 a0_4, .int .i64 a0_5, .int .i64 a0_6]) ?_ 0 _ rfl; (with_reducible repeat (first|refine bN_ ?_ _|refine bD_ ?_|refine bA_ ?_ _)); exact BK176.out) hb); have n1_:=K_ (below_step (by repeat (first|(with_reducible first|exact HB.out|apply pA_|apply pN_|apply pD_|refine bS_ ?_ GE176.out)|exact HB.out)) hb); clear BK176; clear HB; have BK176:=n0_; have HB:=n1_; clear n0_ n1_; (try clear hb); (try clear hb2); (try clear hk); (try clear hi))|((with_reducible refine gate_dst (N := 7) rfl ?_); refine box_event ?hg (N := 7) ?hd (cs := #[.int .i64 0, .int .i64 0, .int .u32 0, .int .i64 0, .int .i64 0, .int .i64 0, .int .i64 0]) (t := 56) ?hr ?_; (case hd => rfl); (case hg => rfl); (case hr => first|(go_simp; done)|(go_simp; rfl)); intro gb192 hg w15 hbox hb; have n0_:=K_ (blk_below (g := gb176) (o := .cells #[.int .i64 t178, .int .i64 t179, .int .u32 t180, .int .i64 t181, .int .i64 t182, .int .i64 t183, .int .i64 t184] 52 (0, 0)) (by (with_reducible repeat (first|refine bN_ ?_ _|refine bD_ ?_|refine bA_ ?_ _)); exact BK176.out) hb); have n1_:=K_ (below_step (by repeat (first|(with_reducible first|exact HB.out|apply pA_|apply pN_|apply pD_|refine bS_ ?_ GE176.out)|exact HB.out)) hb); have n2_:=K_ (hbox); have n3_:=K_ ((by rw [hg]; exact (below_size (by repeat (first|(with_reducible first|exact HB.out|apply pA_|apply pN_|apply pD_|refine bS_ ?_ GE176.out)|exact HB.out))) : w.heap.size ≤ gb192)); have n4_:=K_ ((by rw [hg]; exact (below_size (by repeat (first|(with_reducible first|exact HB.out|apply pA_|apply pN_|apply pD_|refine bS_ ?_ GE176.out)|exact HB.out))) : w.heap.size ≤ gb192)); have n5_:=K_ ((by rw [hg]; exact Nat.ne_of_lt (blk_lt (g := gb176) (o := .cells #[.int .i64 t178, .int .i64 t179, .int .u32 t180, .int .i64 t181, .int .i64 t182, .int .i64 t183, .int .i64 t184] 52 (0, 0)) (by (with_reducible repeat (first|refine bN_ ?_ _|refine bD_ ?_|refine bA_ ?_ _)); exact BK176.out)) : gb176 ≠ gb192)); have n6_:=K_ ((by rw [hg]; exact Nat.ne_of_gt (blk_lt (g := gb176) (o := .cells #[.int .i64 t178, .int .i64 t179, .int .u32 t180, .int .i64 t181, .int .i64 t182, .int .i64 t183, .int .i64 t184] 52 (0, 0)) (by (with_reducible repeat (first|refine bN_ ?_ _|refine bD_ ?_|refine bA_ ?_ _)); exact BK176.out)) : gb192 ≠ gb176)); clear BK176; clear HB; have BK176:=n0_; have HB:=n1_; have BK192:=n2_; have GW192:=n3_; have GE192:=n4_; have NB176_192:=n5_; have NB192_176:=n6_; clear n0_ n1_ n2_ n3_ n4_ n5_ n6_; clear hb hbox hg; have hnb16:=NB192_176.out; have hnc16:=NB176_192.out; have hcz17_0 : w15.cell? ⟨gb192, 0, none⟩ = some (.int .i64 0) := (blk_cell BK192.out 0).trans rfl; have hcz17_1 : w15.cell? ⟨gb192, 1, none⟩ = some (.int .i64 0) := (blk_cell BK192.out 1).trans rfl; have hcz17_2 : w15.cell? ⟨gb192, 2, none⟩ = some (.int .u32 0) := (blk_cell BK192.out 2).trans rfl; have hcz17_3 : w15.cell? ⟨gb192, 3, none⟩ = some (.int .i64 0) := (blk_cell BK192.out 3).trans rfl; have hcz17_4 : w15.cell? ⟨gb192, 4, none⟩ = some (.int .i64 0) := (blk_cell BK192.out 4).trans rfl; have hcz17_5 : w15.cell? ⟨gb192, 5, none⟩ = some (.int .i64 0) := (blk_cell BK192.out 5).trans rfl; have hcz17_6 : w15.cell? ⟨gb192, 6, none⟩ = some (.int .i64 0) := (blk_cell BK192.out 6).trans rfl; have hfz17_0:=blk_frozen BK192.out 0; have hfz17_1:=blk_frozen BK192.out 1; have hfz17_2:=blk_frozen BK192.out 2; have hfz17_3:=blk_frozen BK192.out 3; have hfz17_4:=blk_frozen BK192.out 4; have hfz17_5:=blk_frozen BK192.out 5; have hfz17_6:=blk_frozen BK192.out 6))
  (try simp only [Act.put, List.setIfInBounds_toArray, List.set_cons_zero, List.set_cons_succ])
  go_cut [33] (fun v33 wc => ∃ (kq : Nat) (x33_7 : Bool), v33 = .bool x33_7 ∧ Aside0 (j0 kq a1 a2 x33_7 t185 t186 t187 t188 t189 t190 t191 = some r) ∧ Aside0 (kq ≤ k) ∧ Aside0 (wc.heap[gb176]? = some (.cells #[.int .i64 t178, .int .i64 t179, .int .u32 t180, .int .i64 t181, .int .i64 t182, .int .i64 t183, .int .i64 t184] 52 (0, 0))) ∧ Aside0 (wc.heap[gb192]? = some (.cells #[.int .i64 t185, .int .i64 t186, .int .u32 t187, .int .i64 t188, .int .i64 t189, .int .i64 t190, .int .i64 t191] 56 (0, 0))) ∧ Aside0 (Below w.heap.size w wc))
  case first =>
   have H:=HC8.out
   clear HC8
   replace H := Option.bind_eq_some_iff.mp H
   obtain ⟨t193, A180, H⟩ := H
   replace H : ((chatelaineref07_Quorum.f k t178 t179 t180 t181 t182 t183 t184 a1 t181 t182).bind fun t194 => (if (t193 != t194) = true then (j0 k a1 a2 true t185 t186 t187 t188 t189 t190 t191) else ((grid_Config_IsSecond.f k t185 t186 t187 t188 t189 t190 t191 a1).bind fun t195 => ((chatelaineref07_Quorum.f k t178 t179 t180 t181 t182 t183 t184 a1 t183 t184).bind fun t196 => (j0 k a1 a2 (t195 != t196) t185 t186 t187 t188 t189 t190 t191))))) = some r := H
   have A18:=K_ A180
   clear A180
   replace H := Option.bind_eq_some_iff.mp H
   obtain ⟨t194, A190, H⟩ := H
   replace H : (if (t193 != t194) = true then (j0 k a1 a2 true t185 t186 t187 t188 t189 t190 t191) else ((grid_Config_IsSecond.f k t185 t186 t187 t188 t189 t190 t191 a1).bind fun t195 => ((chatelaineref07_Quorum.f k t178 t179 t180 t181 t182 t183 t184 a1 t183 t184).bind fun t196 => (j0 k a1 a2 (t195 != t196) t185 t186 t187 t188 t189 t190 t191)))) = some r := H
   have A19:=K_ A190
   clear A190
   by_cases c20 : (t193 != t194) = true
   ·
    rw [if_pos c20] at H
    have c20b0 : (t193 != t194) = true := c20
    (try (have c20b1 : decide (t193 = t194) = false := by simpa using c20))
    (try (have c20b2 : (t193 == t194) = false := by simpa using c20))
    (try (have c20b3 : ¬ (t193 = t194) := by simpa using c20))
    clear c20
    (first|rw [c20b0]|(simp only [i64_w, i32_w]; rw [c20b0])|skip)
    have H' := K_ H
    clear H
    try go_wp2
    have n0_ : Aside0 ((((((((w15.setCell ⟨gb192, 0, none⟩ (.int .i64 t185)).setCell ⟨gb192, 1, none⟩ (.int .i64 t186)).setCell ⟨gb192, 2, none⟩ (.int .u32 t187)).setCell ⟨gb192, 3, none⟩ (.int .i64 t188)).setCell ⟨gb192, 4, none⟩ (.int .i64 t189)).setCell ⟨gb192, 5, none⟩ (.int .i64 t190)).setCell ⟨gb192, 6, none⟩ (.int .i64 t191)).heap[gb176]? = some (.cells #[.int .i64 t178, .int .i64 t179, .int .u32 t180, .int .i64 t181, .int .i64 t182, .int .i64 t183, .int .i64 t184] 52 (0, 0))) := ⟨by (with_reducible repeat (first|refine bN_ ?_ _|refine bD_ ?_|refine bA_ ?_ _)); refine blk_far ?_ NB176_192.out _; (with_reducible repeat (first|refine bN_ ?_ _|refine bD_ ?_|refine bA_ ?_ _)); refine blk_far ?_ NB176_192.out _; (with_reducible repeat (first|refine bN_ ?_ _|refine bD_ ?_|refine bA_ ?_ _)); refine blk_far ?_ NB176_192.out _; (with_reducible repeat (first|refine bN_ ?_ _|refine bD_ ?_|refine bA_ ?_ _)); refine blk_far ?_ NB176_192.out _; (with_reducible repeat (first|refine bN_ ?_ _|refine bD_ ?_|refine bA_ ?_ _)); refine blk_far ?_ NB176_192.out _; (with_reducible repeat (first|refine bN_ ?_ _|refine bD_ ?_|refine bA_ ?_ _)); refine blk_far ?_ NB176_192.out _; (with_reducible repeat (first|refine bN_ ?_ _|refine bD_ ?_|refine bA_ ?_ _)); refine blk_far ?_ NB176_192.out _; (with_reducible repeat (first|refine bN_ ?_ _|refine bD_ ?_|refine bA_ ?_ _)); exact BK176.out⟩
    have n1_ : Aside0 ((((((((w15.setCell ⟨gb192, 0, none⟩ (.int .i64 t185)).setCell ⟨gb192, 1, none⟩ (.int .i64 t186)).setCell ⟨gb192, 2, none⟩ (.int .u32 t187)).setCell ⟨gb192, 3, none⟩ (.int .i64 t188)).setCell ⟨gb192, 4, none⟩ (.int .i64 t189)).setCell ⟨gb192, 5, none⟩ (.int .i64 t190)).setCell ⟨gb192, 6, none⟩ (.int .i64 t191)).heap[gb192]? = some (.cells #[.int .i64 t185, .int .i64 t186, .int .u32 t187, .int .i64 t188, .int .i64 t189, .int .i64 t190, .int .i64 t191] 56 (0, 0))) := ⟨by (with_reducible repeat (first|refine bN_ ?_ _|refine bD_ ?_|refine bA_ ?_ _)); refine blk_put (cs := #[.int .i64 t185, .int .i64 t186, .int .u32 t187, .int .i64 t188, .int .i64 t189, .int .i64 t190, .int .i64 0]) ?_ 6 _ rfl; (with_reducible repeat (first|refine bN_ ?_ _|refine bD_ ?_|refine bA_ ?_ _)); refine blk_put (cs := #[.int .i64 t185, .int .i64 t186, .int .u32 t187, .int .i64 t188, .int .i64 t189, .int .i64 0, .int .i64 0]) ?_ 5 _ rfl; (with_reducible repeat (first|refine bN_ ?_ _|refine bD_ ?_|refine bA_ ?_ _)); refine blk_put (cs := #[.int .i64 t185, .int .i64 t186, .int .u32 t187, .int .i64 t188, .int .i64 0, .int .i64 0, .int .i64 0]) ?_ 4 _ rfl; (with_reducible repeat (first|refine bN_ ?_ _|refine bD_ ?_|refine bA_ ?_ _)); refine blk_put (cs := #[.int .i64 t185, .int .i64 t186, .int .u32 t187, .int .i64 0, .int .i64 0, .int .i64 0, .int .i64 0]) ?_ 3 _ rfl; (with_reducible repeat (first|refine bN_ ?_ _|refine bD_ ?_|refine bA_ ?_ _)); refine blk_put (cs := #[.int .i64 t185, .int .i64 t186, .int .u32 0, .int .i64 0, .int .i64 0, .int .i64 0, .int .i64 0]) ?_ 2 _ rfl; (with_reducible repeat (first|refine bN_ ?_ _|refine bD_ ?_|refine bA_ ?_ _)); refine blk_put (cs := #[.int .i64 t185, .int .i64 0, .int .u32 0, .int .i64 0, .int .i64 0, .int .i64 0, .int .i64 0]) ?_ 1 _ rfl; (with_reducible repeat (first|refine bN_ ?_ _|refine bD_ ?_|refine bA_ ?_ _)); refine blk_put (cs := #[.int .i64 0, .int .i64 0, .int .u32 0, .int .i64 0, .int .i64 0, .int .i64 0, .int .i64 0]) ?_ 0 _ rfl; (with_reducible repeat (first|refine bN_ ?_ _|refine bD_ ?_|refine bA_ ?_ _)); exact BK192.out⟩
    have n2_ : Aside0 (Below w.heap.size w (((((((w15.setCell ⟨gb192, 0, none⟩ (.int .i64 t185)).setCell ⟨gb192, 1, none⟩ (.int .i64 t186)).setCell ⟨gb192, 2, none⟩ (.int .u32 t187)).setCell ⟨gb192, 3, none⟩ (.int .i64 t188)).setCell ⟨gb192, 4, none⟩ (.int .i64 t189)).setCell ⟨gb192, 5, none⟩ (.int .i64 t190)).setCell ⟨gb192, 6, none⟩ (.int .i64 t191))) := ⟨by repeat (first|(with_reducible first|exact HB.out|apply pA_|apply pN_|apply pD_|refine bS_ ?_ GE176.out|refine bS_ ?_ GE192.out)|exact HB.out)⟩
    (try clear BK176)
    (try clear BK192)
    (try clear HB)
    generalize (((((((w15.setCell ⟨gb192, 0, none⟩ (.int .i64 t185)).setCell ⟨gb192, 1, none⟩ (.int .i64 t186)).setCell ⟨gb192, 2, none⟩ (.int .u32 t187)).setCell ⟨gb192, 3, none⟩ (.int .i64 t188)).setCell ⟨gb192, 4, none⟩ (.int .i64 t189)).setCell ⟨gb192, 5, none⟩ (.int .i64 t190)).setCell ⟨gb192, 6, none⟩ (.int .i64 t191)) = w21 at n0_ n1_ n2_ ⊢
    have BK176:=n0_
    have BK192:=n1_
    have HB:=n2_
    clear n0_ n1_ n2_
    have n0_:=K_ (bD_ BK176.out)
    have n1_:=K_ (bD_ BK192.out)
    have n2_:=K_ (pD_ HB.out)
    clear BK176
    clear BK192
    clear HB
    have BK176:=n0_
    have BK192:=n1_
    have HB:=n2_
    clear n0_ n1_ n2_
    refine start_ (n := 20) (S := fun w' => w'.cell? ⟨gb192, 0, none⟩ = some (.int .i64 t185) ∧ w'.cell? ⟨gb192, 1, none⟩ = some (.int .i64 t186) ∧ w'.cell? ⟨gb192, 2, none⟩ = some (.int .u32 t187) ∧ w'.cell? ⟨gb192, 3, none⟩ = some (.int .i64 t188) ∧ w'.cell? ⟨gb192, 4, none⟩ = some (.int .i64 t189) ∧ w'.cell? ⟨gb192, 5, none⟩ = some (.int .i64 t190) ∧ w'.cell? ⟨gb192, 6, none⟩ = some (.int .i64 t191) ∧ w'.cell? ⟨gb176, 0, none⟩ = some (.int .i64 t178) ∧ w'.cell? ⟨gb176, 1, none⟩ = some (.int .i64 t179) ∧ w'.cell? ⟨gb176, 2, none⟩ = some (.int .u32 t180) ∧ w'.cell? ⟨gb176, 3, none⟩ = some (.int .i64 t181) ∧ w'.cell? ⟨gb176, 4, none⟩ = some (.int .i64 t182) ∧ w'.cell? ⟨gb176, 5, none⟩ = some (.int .i64 t183) ∧ w'.cell? ⟨gb176, 6, none⟩ = some (.int .i64 t184)) (ds := []) qm0 (by kernel_rfl) rfl rfl ⟨(blk_cell BK192.out 0).trans rfl, (blk_cell BK192.out 1).trans rfl, (blk_cell BK192.out 2).trans rfl, (blk_cell BK192.out 3).trans rfl, (blk_cell BK192.out 4).trans rfl, (blk_cell BK192.out 5).trans rfl, (blk_cell BK192.out 6).trans rfl, (blk_cell BK176.out 0).trans rfl, (blk_cell BK176.out 1).trans rfl, (blk_cell BK176.out 2).trans rfl, (blk_cell BK176.out 3).trans rfl, (blk_cell BK176.out 4).trans rfl, (blk_cell BK176.out 5).trans rfl, (blk_cell BK176.out 6).trans rfl⟩ (fun hHeld => ?_); refine with_tabW chatelainelaw07_GridQuorums.tab5 chatelainelaw07_GridQuorums.bits5 (fun HT_ HW_ => ?_)
    generalize w21.drew = w22 at BK176 BK192 HB hHeld ⊢
    refine pure_ (i := 1) (N := some 15) (v := ?_) (a' := ?_) qm1 rfl rfl (any_of HT_.out (by kernel_rfl)) (fun _ _ _ h => h) (Or.inl ⟨by rfl, ?_⟩) ?_ ?_
    rotate_left
    ·
     intro w'
     go_simp
     with_reducible rfl
    rotate_left
    ·
     simp only [Act.put, e1_, e2_, e3_, i64_w, i32_w]
     rfl
    refine pure_ (i := 4) (N := some 18) (v := ?_) (a' := ?_) qm2 rfl rfl (any_of HT_.out (by kernel_rfl)) (fun _ _ _ h => h) (Or.inl ⟨by rfl, ?_⟩) ?_ ?_
    rotate_left
    ·
     intro w'
     go_simp
     with_reducible rfl
    rotate_left
    ·
     simp only [Act.put, e1_, e2_, e3_, i64_w, i32_w]
     rfl
    refine pure_ (i := 5) (N := some 19) (v := ?_) (a' := ?_) qm3 rfl rfl (any_of HT_.out (by kernel_rfl)) (fun _ _ _ h => h) (Or.inl ⟨by rfl, ?_⟩) ?_ ?_
    rotate_left
    ·
     intro w'
     go_simp
     with_reducible rfl
    rotate_left
    ·
     simp only [Act.put, e1_, e2_, e3_, i64_w, i32_w]
     rfl
    refine take_ (i := 0) (N := some 14) (v := ?_) (a' := ?_) qm4 rfl rfl (take_ofW HT_.out HW_.out (by kernel_rfl)) (fun _ _ _ h => h) (Or.inl ⟨by rfl, ?_⟩) hHeld ?_ ?_
    rotate_left
    ·
     rintro w' ⟨s0, s1, s2, s3, s4, s5, s6, s7, s8, s9, s10, s11, s12, s13⟩
     go_simp
     with_reducible rfl
    rotate_left
    ·
     simp only [Act.put, e1_, e2_, e3_, i64_w, i32_w]
     rfl
    refine take_ (i := 3) (N := some 17) (v := ?_) (a' := ?_) qm5 rfl rfl (take_ofW HT_.out HW_.out (by kernel_rfl)) (fun _ _ _ h => h) (Or.inl ⟨by rfl, ?_⟩) hHeld ?_ ?_
    rotate_left
    ·
     rintro w' ⟨s0, s1, s2, s3, s4, s5, s6, s7, s8, s9, s10, s11, s12, s13⟩
     go_simp
     with_reducible rfl
    rotate_left
    ·
     simp only [Act.put, e1_, e2_, e3_, i64_w, i32_w]
     rfl
    refine take_ (i := 6) (N := some 20) (v := ?_) (a' := ?_) qm6 rfl rfl (take_ofW HT_.out HW_.out (by kernel_rfl)) (fun _ _ _ h => h) (Or.inl ⟨by rfl, ?_⟩) hHeld ?_ ?_
    rotate_left
    ·
     rintro w' ⟨s0, s1, s2, s3, s4, s5, s6, s7, s8, s9, s10, s11, s12, s13⟩
     go_simp
     with_reducible rfl
    rotate_left
    ·
     simp only [Act.put, e1_, e2_, e3_, i64_w, i32_w]
     rfl
    refine one_ (i := 2) (N := some 16) qm7 rfl rfl (one_of HT_.out (by kernel_rfl)) (by decide) (fun K hK => ?_)
    refine goes_ Try.func31 (by kernel_rfl) rfl #[.agg #[.int .i64 t185, .int .i64 t186, .int .u32 t187, .int .i64 t188, .int .i64 t189, .int .i64 t190, .int .i64 t191], .int .u32 a1] (by rfl) rfl rfl (by (try simp only [List.map_toArray, List.map_cons, List.map_nil]); first|done|rfl|(simp only [List.length_drop, List.length_take]; rfl)) ?_
    with_reducible refine (grid_Config_IsFirst.calls k t185 t186 t187 t188 t189 t190 t191 a1 t193 _ A18.out).mono ?_
    rintro e w23 ⟨rfl, hb⟩
    refine ⟨_, rfl, ?_⟩
    have n0_:=K_ (blk_below (g := gb176) (o := .cells #[.int .i64 t178, .int .i64 t179, .int .u32 t180, .int .i64 t181, .int .i64 t182, .int .i64 t183, .int .i64 t184] 52 (0, 0)) (by (with_reducible repeat (first|refine bN_ ?_ _|refine bD_ ?_|refine bA_ ?_ _)); exact BK176.out) hb)
    have n1_:=K_ (blk_below (g := gb192) (o := .cells #[.int .i64 t185, .int .i64 t186, .int .u32 t187, .int .i64 t188, .int .i64 t189, .int .i64 t190, .int .i64 t191] 56 (0, 0)) (by (with_reducible repeat (first|refine bN_ ?_ _|refine bD_ ?_|refine bA_ ?_ _)); exact BK192.out) hb)
    have n2_:=K_ (below_step (by repeat (first|(with_reducible first|exact HB.out|apply pA_|apply pN_|apply pD_|refine bS_ ?_ GE176.out|refine bS_ ?_ GE192.out)|exact HB.out)) hb)
    clear BK176
    clear BK192
    clear HB
    have BK176:=n0_
    have BK192:=n1_
    have HB:=n2_
    clear n0_ n1_ n2_
    (try clear hb)
    (try clear hb2)
    (try clear hk)
    (try clear hi)
    refine hK.out _ _ ⟨(blk_cell BK192.out 0).trans rfl, (blk_cell BK192.out 1).trans rfl, (blk_cell BK192.out 2).trans rfl, (blk_cell BK192.out 3).trans rfl, (blk_cell BK192.out 4).trans rfl, (blk_cell BK192.out 5).trans rfl, (blk_cell BK192.out 6).trans rfl, (blk_cell BK176.out 0).trans rfl, (blk_cell BK176.out 1).trans rfl, (blk_cell BK176.out 2).trans rfl, (blk_cell BK176.out 3).trans rfl, (blk_cell BK176.out 4).trans rfl, (blk_cell BK176.out 5).trans rfl, (blk_cell BK176.out 6).trans rfl⟩ (fun hHeld => ?_)
    clear hK K
    refine norm_ (a' := ?_) ?_ ?_
    rotate_left
    ·
     show Act.put _ (some 16) _ = _
     simp only [Act.put, e1_, e2_, e3_, i64_w, i32_w]
     rfl
    refine one_ (i := 7) (N := some 21) qm8 rfl rfl (one_of HT_.out (by kernel_rfl)) (by decide) (fun K hK => ?_)
    refine goes_ Try.func32 (by kernel_rfl) rfl #[.agg #[.int .i64 t178, .int .i64 t179, .int .u32 t180, .int .i64 t181, .int .i64 t182, .int .i64 t183, .int .i64 t184], .int .u32 a1, .agg #[.int .i64 t181, .int .i64 t182]] (by rfl) rfl rfl (by (try simp only [List.map_toArray, List.map_cons, List.map_nil]); first|done|rfl|(simp only [List.length_drop, List.length_take]; rfl)) ?_
    with_reducible refine (chatelaineref07_Quorum.calls k t178 t179 t180 t181 t182 t183 t184 a1 t181 t182 t194 _ A19.out).mono ?_
    rintro e w24 ⟨rfl, hb⟩
    refine ⟨_, rfl, ?_⟩
    have n0_:=K_ (blk_below (g := gb176) (o := .cells #[.int .i64 t178, .int .i64 t179, .int .u32 t180, .int .i64 t181, .int .i64 t182, .int .i64 t183, .int .i64 t184] 52 (0, 0)) (by (with_reducible repeat (first|refine bN_ ?_ _|refine bD_ ?_|refine bA_ ?_ _)); exact BK176.out) hb)
    have n1_:=K_ (blk_below (g := gb192) (o := .cells #[.int .i64 t185, .int .i64 t186, .int .u32 t187, .int .i64 t188, .int .i64 t189, .int .i64 t190, .int .i64 t191] 56 (0, 0)) (by (with_reducible repeat (first|refine bN_ ?_ _|refine bD_ ?_|refine bA_ ?_ _)); exact BK192.out) hb)
    have n2_:=K_ (below_step (by repeat (first|(with_reducible first|exact HB.out|apply pA_|apply pN_|apply pD_|refine bS_ ?_ GE176.out|refine bS_ ?_ GE192.out)|exact HB.out)) hb)
    clear BK176
    clear BK192
    clear HB
    have BK176:=n0_
    have BK192:=n1_
    have HB:=n2_
    clear n0_ n1_ n2_
    (try clear hb)
    (try clear hb2)
    (try clear hk)
    (try clear hi)
    refine hK.out _ _ ⟨(blk_cell BK192.out 0).trans rfl, (blk_cell BK192.out 1).trans rfl, (blk_cell BK192.out 2).trans rfl, (blk_cell BK192.out 3).trans rfl, (blk_cell BK192.out 4).trans rfl, (blk_cell BK192.out 5).trans rfl, (blk_cell BK192.out 6).trans rfl, (blk_cell BK176.out 0).trans rfl, (blk_cell BK176.out 1).trans rfl, (blk_cell BK176.out 2).trans rfl, (blk_cell BK176.out 3).trans rfl, (blk_cell BK176.out 4).trans rfl, (blk_cell BK176.out 5).trans rfl, (blk_cell BK176.out 6).trans rfl⟩ (fun hHeld => ?_)
    clear hK K
    refine norm_ (a' := ?_) ?_ ?_
    rotate_left
    ·
     show Act.put _ (some 21) _ = _
     simp only [Act.put, e1_, e2_, e3_, i64_w, i32_w]
     rfl
    refine pure_ (i := 8) (N := some 22) (v := ?_) (a' := ?_) qm9 rfl rfl (any_of HT_.out (by kernel_rfl)) (fun _ _ _ h => h) (Or.inl ⟨by rfl, ?_⟩) ?_ ?_
    rotate_left
    ·
     intro w'
     go_simp
     with_reducible rfl
    rotate_left
    ·
     simp only [Act.put, e1_, e2_, e3_, i64_w, i32_w]
     rfl
    refine pure_ (i := 9) (N := some 23) (v := ?_) (a' := ?_) qm10 rfl rfl (any_of HT_.out (by kernel_rfl)) (fun _ _ _ h => h) (Or.inl ⟨by rfl, ?_⟩) ?_ ?_
    rotate_left
    ·
     intro w'
     go_simp
     with_reducible rfl
    rotate_left
    ·
     simp only [Act.put, e1_, e2_, e3_, i64_w, i32_w]
     rfl
    refine pure_ (i := 10) (N := some 24) (v := undef) (a' := ?_) #[true, true, true, true, true, true, true, true, true, true, true, false, false, false, false, false, false, false, false, false] rfl rfl (any_of HT_.out (by kernel_rfl)) (fun _ _ _ h => h) (Or.inr ⟨by rfl, rfl⟩) ?_ ?_
    rotate_left
    ·
     simp only [Act.put, e1_, e2_, e3_, i64_w, i32_w]
     rfl
    refine pure_ (i := 11) (N := some 25) (v := undef) (a' := ?_) #[true, true, true, true, true, true, true, true, true, true, true, true, false, false, false, false, false, false, false, false] rfl rfl (any_of HT_.out (by kernel_rfl)) (fun _ _ _ h => h) (Or.inr ⟨by rfl, rfl⟩) ?_ ?_
    rotate_left
    ·
     simp only [Act.put, e1_, e2_, e3_, i64_w, i32_w]
     rfl
    refine pure_ (i := 12) (N := some 26) (v := undef) (a' := ?_) #[true, true, true, true, true, true, true, true, true, true, true, true, true, false, false, false, false, false, false, false] rfl rfl (any_of HT_.out (by kernel_rfl)) (fun _ _ _ h => h) (Or.inr ⟨by rfl, rfl⟩) ?_ ?_
    rotate_left
    ·
     simp only [Act.put, e1_, e2_, e3_, i64_w, i32_w]
     rfl
    refine pure_ (i := 13) (N := some 27) (v := undef) (a' := ?_) #[true, true, true, true, true, true, true, true, true, true, true, true, true, true, false, false, false, false, false, false] rfl rfl (any_of HT_.out (by kernel_rfl)) (fun _ _ _ h => h) (Or.inr ⟨by rfl, rfl⟩) ?_ ?_
    rotate_left
    ·
     simp only [Act.put, e1_, e2_, e3_, i64_w, i32_w]
     rfl
    refine pure_ (i := 14) (N := some 28) (v := undef) (a' := ?_) #[true, true, true, true, true, true, true, true, true, true, true, true, true, true, true, false, false, false, false, false] rfl rfl (any_of HT_.out (by kernel_rfl)) (fun _ _ _ h => h) (Or.inr ⟨by rfl, rfl⟩) ?_ ?_
    rotate_left
    ·
     simp only [Act.put, e1_, e2_, e3_, i64_w, i32_w]
     rfl
    refine pure_ (i := 15) (N := some 29) (v := undef) (a' := ?_) #[true, true, true, true, true, true, true, true, true, true, true, true, true, true, true, true, false, false, false, false] rfl rfl (any_of HT_.out (by kernel_rfl)) (fun _ _ _ h => h) (Or.inr ⟨by rfl, rfl⟩) ?_ ?_
    rotate_left
    ·
     simp only [Act.put, e1_, e2_, e3_, i64_w, i32_w]
     rfl
    refine pure_ (i := 16) (N := some 30) (v := undef) (a' := ?_) qm17 rfl rfl (any_of HT_.out (by kernel_rfl)) (fun _ _ _ h => h) (Or.inr ⟨by rfl, rfl⟩) ?_ ?_
    rotate_left
    ·
     simp only [Act.put, e1_, e2_, e3_, i64_w, i32_w]
     rfl
    refine pure_ (i := 17) (N := some 31) (v := undef) (a' := ?_) qm18 rfl rfl (any_of HT_.out (by kernel_rfl)) (fun _ _ _ h => h) (Or.inr ⟨by rfl, rfl⟩) ?_ ?_
    rotate_left
    ·
     simp only [Act.put, e1_, e2_, e3_, i64_w, i32_w]
     rfl
    refine pure_ (i := 18) (N := some 32) (v := undef) (a' := ?_) qm19 rfl rfl (any_of HT_.out (by kernel_rfl)) (fun _ _ _ h => h) (Or.inr ⟨by rfl, rfl⟩) ?_ ?_
    rotate_left
    ·
     simp only [Act.put, e1_, e2_, e3_, i64_w, i32_w]
     rfl
    refine pure_ (i := 19) (N := some 33) (v := ?_) (a' := ?_) qm20 rfl rfl (any_of HT_.out (by kernel_rfl)) (fun _ _ _ h => h) (Or.inl ⟨by rfl, ?_⟩) ?_ ?_
    rotate_left
    ·
     intro w'
     go_simp
     with_reducible rfl
    rotate_left
    ·
     simp only [Act.put, e1_, e2_, e3_, i64_w, i32_w]
     rfl
    refine done_ (done_of HT_.out (by kernel_rfl)) ?_
    try go_wp2
    go_meet
    case rel => exact ⟨_, (true), (by first|rfl|(simp; done)|(simp [*]; done)), H', ⟨by first|omega|exact Nat.le_refl _⟩, ⟨by (with_reducible repeat (first|refine bN_ ?_ _|refine bD_ ?_|refine bA_ ?_ _)); exact BK176.out⟩, ⟨by (with_reducible repeat (first|refine bN_ ?_ _|refine bD_ ?_|refine bA_ ?_ _)); exact BK192.out⟩, ⟨by repeat (first|(with_reducible first|exact HB.out|apply pA_|apply pN_|apply pD_|refine bS_ ?_ GE176.out|refine bS_ ?_ GE192.out)|exact HB.out)⟩⟩
   ·
    rw [if_neg c20] at H
    have c20b0 : (t193 != t194) = false := by simpa using c20
    (try (have c20b1 : decide (t193 = t194) = true := by simpa using c20))
    (try (have c20b2 : (t193 == t194) = true := by simpa using c20))
    clear c20
    (first|rw [c20b0]|(simp only [i64_w, i32_w]; rw [c20b0])|skip)
    replace H := Option.bind_eq_some_iff.mp H
    obtain ⟨t195, A250, H⟩ := H
    replace H : ((chatelaineref07_Quorum.f k t178 t179 t180 t181 t182 t183 t184 a1 t183 t184).bind fun t196 => (j0 k a1 a2 (t195 != t196) t185 t186 t187 t188 t189 t190 t191)) = some r := H
    have A25:=K_ A250
    clear A250
    replace H := Option.bind_eq_some_iff.mp H
    obtain ⟨t196, A260, H⟩ := H
    replace H : (j0 k a1 a2 (t195 != t196) t185 t186 t187 t188 t189 t190 t191) = some r := H
    have A26:=K_ A260
    clear A260
    have H' := K_ H
    clear H
    try go_wp2
    have n0_ : Aside0 ((((((((w15.setCell ⟨gb192, 0, none⟩ (.int .i64 t185)).setCell ⟨gb192, 1, none⟩ (.int .i64 t186)).setCell ⟨gb192, 2, none⟩ (.int .u32 t187)).setCell ⟨gb192, 3, none⟩ (.int .i64 t188)).setCell ⟨gb192, 4, none⟩ (.int .i64 t189)).setCell ⟨gb192, 5, none⟩ (.int .i64 t190)).setCell ⟨gb192, 6, none⟩ (.int .i64 t191)).heap[gb176]? = some (.cells #[.int .i64 t178, .int .i64 t179, .int .u32 t180, .int .i64 t181, .int .i64 t182, .int .i64 t183, .int .i64 t184] 52 (0, 0))) := ⟨by (with_reducible repeat (first|refine bN_ ?_ _|refine bD_ ?_|refine bA_ ?_ _)); refine blk_far ?_ NB176_192.out _; (with_reducible repeat (first|refine bN_ ?_ _|refine bD_ ?_|refine bA_ ?_ _)); refine blk_far ?_ NB176_192.out _; (with_reducible repeat (first|refine bN_ ?_ _|refine bD_ ?_|refine bA_ ?_ _)); refine blk_far ?_ NB176_192.out _; (with_reducible repeat (first|refine bN_ ?_ _|refine bD_ ?_|refine bA_ ?_ _)); refine blk_far ?_ NB176_192.out _; (with_reducible repeat (first|refine bN_ ?_ _|refine bD_ ?_|refine bA_ ?_ _)); refine blk_far ?_ NB176_192.out _; (with_reducible repeat (first|refine bN_ ?_ _|refine bD_ ?_|refine bA_ ?_ _)); refine blk_far ?_ NB176_192.out _; (with_reducible repeat (first|refine bN_ ?_ _|refine bD_ ?_|refine bA_ ?_ _)); refine blk_far ?_ NB176_192.out _; (with_reducible repeat (first|refine bN_ ?_ _|refine bD_ ?_|refine bA_ ?_ _)); exact BK176.out⟩
    have n1_ : Aside0 ((((((((w15.setCell ⟨gb192, 0, none⟩ (.int .i64 t185)).setCell ⟨gb192, 1, none⟩ (.int .i64 t186)).setCell ⟨gb192, 2, none⟩ (.int .u32 t187)).setCell ⟨gb192, 3, none⟩ (.int .i64 t188)).setCell ⟨gb192, 4, none⟩ (.int .i64 t189)).setCell ⟨gb192, 5, none⟩ (.int .i64 t190)).setCell ⟨gb192, 6, none⟩ (.int .i64 t191)).heap[gb192]? = some (.cells #[.int .i64 t185, .int .i64 t186, .int .u32 t187, .int .i64 t188, .int .i64 t189, .int .i64 t190, .int .i64 t191] 56 (0, 0))) := ⟨by (with_reducible repeat (first|refine bN_ ?_ _|refine bD_ ?_|refine bA_ ?_ _)); refine blk_put (cs := #[.int .i64 t185, .int .i64 t186, .int .u32 t187, .int .i64 t188, .int .i64 t189, .int .i64 t190, .int .i64 0]) ?_ 6 _ rfl; (with_reducible repeat (first|refine bN_ ?_ _|refine bD_ ?_|refine bA_ ?_ _)); refine blk_put (cs := #[.int .i64 t185, .int .i64 t186, .int .u32 t187, .int .i64 t188, .int .i64 t189, .int .i64 0, .int .i64 0]) ?_ 5 _ rfl; (with_reducible repeat (first|refine bN_ ?_ _|refine bD_ ?_|refine bA_ ?_ _)); refine blk_put (cs := #[.int .i64 t185, .int .i64 t186, .int .u32 t187, .int .i64 t188, .int .i64 0, .int .i64 0, .int .i64 0]) ?_ 4 _ rfl; (with_reducible repeat (first|refine bN_ ?_ _|refine bD_ ?_|refine bA_ ?_ _)); refine blk_put (cs := #[.int .i64 t185, .int .i64 t186, .int .u32 t187, .int .i64 0, .int .i64 0, .int .i64 0, .int .i64 0]) ?_ 3 _ rfl; (with_reducible repeat (first|refine bN_ ?_ _|refine bD_ ?_|refine bA_ ?_ _)); refine blk_put (cs := #[.int .i64 t185, .int .i64 t186, .int .u32 0, .int .i64 0, .int .i64 0, .int .i64 0, .int .i64 0]) ?_ 2 _ rfl; (with_reducible repeat (first|refine bN_ ?_ _|refine bD_ ?_|refine bA_ ?_ _)); refine blk_put (cs := #[.int .i64 t185, .int .i64 0, .int .u32 0, .int .i64 0, .int .i64 0, .int .i64 0, .int .i64 0]) ?_ 1 _ rfl; (with_reducible repeat (first|refine bN_ ?_ _|refine bD_ ?_|refine bA_ ?_ _)); refine blk_put (cs := #[.int .i64 0, .int .i64 0, .int .u32 0, .int .i64 0, .int .i64 0, .int .i64 0, .int .i64 0]) ?_ 0 _ rfl; (with_reducible repeat (first|refine bN_ ?_ _|refine bD_ ?_|refine bA_ ?_ _)); exact BK192.out⟩
    have n2_ : Aside0 (Below w.heap.size w (((((((w15.setCell ⟨gb192, 0, none⟩ (.int .i64 t185)).setCell ⟨gb192, 1, none⟩ (.int .i64 t186)).setCell ⟨gb192, 2, none⟩ (.int .u32 t187)).setCell ⟨gb192, 3, none⟩ (.int .i64 t188)).setCell ⟨gb192, 4, none⟩ (.int .i64 t189)).setCell ⟨gb192, 5, none⟩ (.int .i64 t190)).setCell ⟨gb192, 6, none⟩ (.int .i64 t191))) := ⟨by repeat (first|(with_reducible first|exact HB.out|apply pA_|apply pN_|apply pD_|refine bS_ ?_ GE176.out|refine bS_ ?_ GE192.out)|exact HB.out)⟩
    (try clear BK176)
    (try clear BK192)
    (try clear HB)
    generalize (((((((w15.setCell ⟨gb192, 0, none⟩ (.int .i64 t185)).setCell ⟨gb192, 1, none⟩ (.int .i64 t186)).setCell ⟨gb192, 2, none⟩ (.int .u32 t187)).setCell ⟨gb192, 3, none⟩ (.int .i64 t188)).setCell ⟨gb192, 4, none⟩ (.int .i64 t189)).setCell ⟨gb192, 5, none⟩ (.int .i64 t190)).setCell ⟨gb192, 6, none⟩ (.int .i64 t191)) = w27 at n0_ n1_ n2_ ⊢
    have BK176:=n0_
    have BK192:=n1_
    have HB:=n2_
    clear n0_ n1_ n2_
    have n0_:=K_ (bD_ BK176.out)
    have n1_:=K_ (bD_ BK192.out)
    have n2_:=K_ (pD_ HB.out)
    clear BK176
    clear BK192
    clear HB
    have BK176:=n0_
    have BK192:=n1_
    have HB:=n2_
    clear n0_ n1_ n2_
    refine start_ (n := 20) (S := fun w' => w'.cell? ⟨gb192, 0, none⟩ = some (.int .i64 t185) ∧ w'.cell? ⟨gb192, 1, none⟩ = some (.int .i64 t186) ∧ w'.cell? ⟨gb192, 2, none⟩ = some (.int .u32 t187) ∧ w'.cell? ⟨gb192, 3, none⟩ = some (.int .i64 t188) ∧ w'.cell? ⟨gb192, 4, none⟩ = some (.int .i64 t189) ∧ w'.cell? ⟨gb192, 5, none⟩ = some (.int .i64 t190) ∧ w'.cell? ⟨gb192, 6, none⟩ = some (.int .i64 t191) ∧ w'.cell? ⟨gb176, 0, none⟩ = some (.int .i64 t178) ∧ w'.cell? ⟨gb176, 1, none⟩ = some (.int .i64 t179) ∧ w'.cell? ⟨gb176, 2, none⟩ = some (.int .u32 t180) ∧ w'.cell? ⟨gb176, 3, none⟩ = some (.int .i64 t181) ∧ w'.cell? ⟨gb176, 4, none⟩ = some (.int .i64 t182) ∧ w'.cell? ⟨gb176, 5, none⟩ = some (.int .i64 t183) ∧ w'.cell? ⟨gb176, 6, none⟩ = some (.int .i64 t184)) (ds := []) qm0 (by kernel_rfl) rfl rfl ⟨(blk_cell BK192.out 0).trans rfl, (blk_cell BK192.out 1).trans rfl, (blk_cell BK192.out 2).trans rfl, (blk_cell BK192.out 3).trans rfl, (blk_cell BK192.out 4).trans rfl, (blk_cell BK192.out 5).trans rfl, (blk_cell BK192.out 6).trans rfl, (blk_cell BK176.out 0).trans rfl, (blk_cell BK176.out 1).trans rfl, (blk_cell BK176.out 2).trans rfl, (blk_cell BK176.out 3).trans rfl, (blk_cell BK176.out 4).trans rfl, (blk_cell BK176.out 5).trans rfl, (blk_cell BK176.out 6).trans rfl⟩ (fun hHeld => ?_); refine with_tabW chatelainelaw07_GridQuorums.tab5 chatelainelaw07_GridQuorums.bits5 (fun HT_ HW_ => ?_)
    generalize w27.drew = w28 at BK176 BK192 HB hHeld ⊢
    refine pure_ (i := 1) (N := some 15) (v := ?_) (a' := ?_) qm1 rfl rfl (any_of HT_.out (by kernel_rfl)) (fun _ _ _ h => h) (Or.inl ⟨by rfl, ?_⟩) ?_ ?_
    rotate_left
    ·
     intro w'
     go_simp
     with_reducible rfl
    rotate_left
    ·
     simp only [Act.put, e1_, e2_, e3_, i64_w, i32_w]
     rfl
    refine pure_ (i := 4) (N := some 18) (v := ?_) (a' := ?_) qm2 rfl rfl (any_of HT_.out (by kernel_rfl)) (fun _ _ _ h => h) (Or.inl ⟨by rfl, ?_⟩) ?_ ?_
    rotate_left
    ·
     intro w'
     go_simp
     with_reducible rfl
    rotate_left
    ·
     simp only [Act.put, e1_, e2_, e3_, i64_w, i32_w]
     rfl
    refine pure_ (i := 5) (N := some 19) (v := ?_) (a' := ?_) qm3 rfl rfl (any_of HT_.out (by kernel_rfl)) (fun _ _ _ h => h) (Or.inl ⟨by rfl, ?_⟩) ?_ ?_
    rotate_left
    ·
     intro w'
     go_simp
     with_reducible rfl
    rotate_left
    ·
     simp only [Act.put, e1_, e2_, e3_, i64_w, i32_w]
     rfl
    refine take_ (i := 0) (N := some 14) (v := ?_) (a' := ?_) qm4 rfl rfl (take_ofW HT_.out HW_.out (by kernel_rfl)) (fun _ _ _ h => h) (Or.inl ⟨by rfl, ?_⟩) hHeld ?_ ?_
    rotate_left
    ·
     rintro w' ⟨s0, s1, s2, s3, s4, s5, s6, s7, s8, s9, s10, s11, s12, s13⟩
     go_simp
     with_reducible rfl
    rotate_left
    ·
     simp only [Act.put, e1_, e2_, e3_, i64_w, i32_w]
     rfl
    refine take_ (i := 3) (N := some 17) (v := ?_) (a' := ?_) qm5 rfl rfl (take_ofW HT_.out HW_.out (by kernel_rfl)) (fun _ _ _ h => h) (Or.inl ⟨by rfl, ?_⟩) hHeld ?_ ?_
    rotate_left
    ·
     rintro w' ⟨s0, s1, s2, s3, s4, s5, s6, s7, s8, s9, s10, s11, s12, s13⟩
     go_simp
     with_reducible rfl
    rotate_left
    ·
     simp only [Act.put, e1_, e2_, e3_, i64_w, i32_w]
     rfl
    refine take_ (i := 6) (N := some 20) (v := ?_) (a' := ?_) qm6 rfl rfl (take_ofW HT_.out HW_.out (by kernel_rfl)) (fun _ _ _ h => h) (Or.inl ⟨by rfl, ?_⟩) hHeld ?_ ?_
    rotate_left
    ·
     rintro w' ⟨s0, s1, s2, s3, s4, s5, s6, s7, s8, s9, s10, s11, s12, s13⟩
     go_simp
     with_reducible rfl
    rotate_left
    ·
     simp only [Act.put, e1_, e2_, e3_, i64_w, i32_w]
     rfl
    refine one_ (i := 2) (N := some 16) qm7 rfl rfl (one_of HT_.out (by kernel_rfl)) (by decide) (fun K hK => ?_)
    refine goes_ Try.func31 (by kernel_rfl) rfl #[.agg #[.int .i64 t185, .int .i64 t186, .int .u32 t187, .int .i64 t188, .int .i64 t189, .int .i64 t190, .int .i64 t191], .int .u32 a1] (by rfl) rfl rfl (by (try simp only [List.map_toArray, List.map_cons, List.map_nil]); first|done|rfl|(simp only [List.length_drop, List.length_take]; rfl)) ?_
    with_reducible refine (grid_Config_IsFirst.calls k t185 t186 t187 t188 t189 t190 t191 a1 t193 _ A18.out).mono ?_
    rintro e w29 ⟨rfl, hb⟩
    refine ⟨_, rfl, ?_⟩
    have n0_:=K_ (blk_below (g := gb176) (o := .cells #[.int .i64 t178, .int .i64 t179, .int .u32 t180, .int .i64 t181, .int .i64 t182, .int .i64 t183, .int .i64 t184] 52 (0, 0)) (by (with_reducible repeat (first|refine bN_ ?_ _|refine bD_ ?_|refine bA_ ?_ _)); exact BK176.out) hb)
    have n1_:=K_ (blk_below (g := gb192) (o := .cells #[.int .i64 t185, .int .i64 t186, .int .u32 t187, .int .i64 t188, .int .i64 t189, .int .i64 t190, .int .i64 t191] 56 (0, 0)) (by (with_reducible repeat (first|refine bN_ ?_ _|refine bD_ ?_|refine bA_ ?_ _)); exact BK192.out) hb)
    have n2_:=K_ (below_step (by repeat (first|(with_reducible first|exact HB.out|apply pA_|apply pN_|apply pD_|refine bS_ ?_ GE176.out|refine bS_ ?_ GE192.out)|exact HB.out)) hb)
    clear BK176
    clear BK192
    clear HB
    have BK176:=n0_
    have BK192:=n1_
    have HB:=n2_
    clear n0_ n1_ n2_
    (try clear hb)
    (try clear hb2)
    (try clear hk)
    (try clear hi)
    refine hK.out _ _ ⟨(blk_cell BK192.out 0).trans rfl, (blk_cell BK192.out 1).trans rfl, (blk_cell BK192.out 2).trans rfl, (blk_cell BK192.out 3).trans rfl, (blk_cell BK192.out 4).trans rfl, (blk_cell BK192.out 5).trans rfl, (blk_cell BK192.out 6).trans rfl, (blk_cell BK176.out 0).trans rfl, (blk_cell BK176.out 1).trans rfl, (blk_cell BK176.out 2).trans rfl, (blk_cell BK176.out 3).trans rfl, (blk_cell BK176.out 4).trans rfl, (blk_cell BK176.out 5).trans rfl, (blk_cell BK176.out 6).trans rfl⟩ (fun hHeld => ?_)
    clear hK K
    refine norm_ (a' := ?_) ?_ ?_
    rotate_left
    ·
     show Act.put _ (some 16) _ = _
     simp only [Act.put, e1_, e2_, e3_, i64_w, i32_w]
     rfl
    refine one_ (i := 7) (N := some 21) qm8 rfl rfl (one_of HT_.out (by kernel_rfl)) (by decide) (fun K hK => ?_)
    refine goes_ Try.func32 (by kernel_rfl) rfl #[.agg #[.int .i64 t178, .int .i64 t179, .int .u32 t180, .int .i64 t181, .int .i64 t182, .int .i64 t183, .int .i64 t184], .int .u32 a1, .agg #[.int .i64 t181, .int .i64 t182]] (by rfl) rfl rfl (by (try simp only [List.map_toArray, List.map_cons, List.map_nil]); first|done|rfl|(simp only [List.length_drop, List.length_take]; rfl)) ?_
    with_reducible refine (chatelaineref07_Quorum.calls k t178 t179 t180 t181 t182 t183 t184 a1 t181 t182 t194 _ A19.out).mono ?_
    rintro e w30 ⟨rfl, hb⟩
    refine ⟨_, rfl, ?_⟩
    have n0_:=K_ (blk_below (g := gb176) (o := .cells #[.int .i64 t178, .int .i64 t179, .int .u32 t180, .int .i64 t181, .int .i64 t182, .int .i64 t183, .int .i64 t184] 52 (0, 0)) (by (with_reducible repeat (first|refine bN_ ?_ _|refine bD_ ?_|refine bA_ ?_ _)); exact BK176.out) hb)
    have n1_:=K_ (blk_below (g := gb192) (o := .cells #[.int .i64 t185, .int .i64 t186, .int .u32 t187, .int .i64 t188, .int .i64 t189, .int .i64 t190, .int .i64 t191] 56 (0, 0)) (by (with_reducible repeat (first|refine bN_ ?_ _|refine bD_ ?_|refine bA_ ?_ _)); exact BK192.out) hb)
    have n2_:=K_ (below_step (by repeat (first|(with_reducible first|exact HB.out|apply pA_|apply pN_|apply pD_|refine bS_ ?_ GE176.out|refine bS_ ?_ GE192.out)|exact HB.out)) hb)
    clear BK176
    clear BK192
    clear HB
    have BK176:=n0_
    have BK192:=n1_
    have HB:=n2_
    clear n0_ n1_ n2_
    (try clear hb)
    (try clear hb2)
    (try clear hk)
    (try clear hi)
    refine hK.out _ _ ⟨(blk_cell BK192.out 0).trans rfl, (blk_cell BK192.out 1).trans rfl, (blk_cell BK192.out 2).trans rfl, (blk_cell BK192.out 3).trans rfl, (blk_cell BK192.out 4).trans rfl, (blk_cell BK192.out 5).trans rfl, (blk_cell BK192.out 6).trans rfl, (blk_cell BK176.out 0).trans rfl, (blk_cell BK176.out 1).trans rfl, (blk_cell BK176.out 2).trans rfl, (blk_cell BK176.out 3).trans rfl, (blk_cell BK176.out 4).trans rfl, (blk_cell BK176.out 5).trans rfl, (blk_cell BK176.out 6).trans rfl⟩ (fun hHeld => ?_)
    clear hK K
    refine norm_ (a' := ?_) ?_ ?_
    rotate_left
    ·
     show Act.put _ (some 21) _ = _
     simp only [Act.put, e1_, e2_, e3_, i64_w, i32_w]
     rfl
    refine pure_ (i := 8) (N := some 22) (v := ?_) (a' := ?_) qm9 rfl rfl (any_of HT_.out (by kernel_rfl)) (fun _ _ _ h => h) (Or.inl ⟨by rfl, ?_⟩) ?_ ?_
    rotate_left
    ·
     intro w'
     go_simp
     with_reducible rfl
    rotate_left
    ·
     simp only [Act.put, e1_, e2_, e3_, i64_w, i32_w]
     rfl
    refine pure_ (i := 9) (N := some 23) (v := ?_) (a' := ?_) qm10 rfl rfl (any_of HT_.out (by kernel_rfl)) (fun _ _ _ h => h) (Or.inl ⟨by rfl, ?_⟩) ?_ ?_
    rotate_left
    ·
     intro w'
     go_simp
     with_reducible rfl
    rotate_left
    ·
     simp only [Act.put, e1_, e2_, e3_, i64_w, i32_w]
     rfl
    refine pure_ (i := 11) (N := some 25) (v := ?_) (a' := ?_) #[true, true, true, true, true, true, true, true, true, true, false, true, false, false, false, false, false, false, false, false] rfl rfl (any_of HT_.out (by kernel_rfl)) (fun _ _ _ h => h) (Or.inl ⟨by rfl, ?_⟩) ?_ ?_
    rotate_left
    ·
     intro w'
     go_simp
     with_reducible rfl
    rotate_left
    ·
     simp only [Act.put, e1_, e2_, e3_, i64_w, i32_w]
     rfl
    refine pure_ (i := 14) (N := some 28) (v := ?_) (a' := ?_) #[true, true, true, true, true, true, true, true, true, true, false, true, false, false, true, false, false, false, false, false] rfl rfl (any_of HT_.out (by kernel_rfl)) (fun _ _ _ h => h) (Or.inl ⟨by rfl, ?_⟩) ?_ ?_
    rotate_left
    ·
     intro w'
     go_simp
     with_reducible rfl
    rotate_left
    ·
     simp only [Act.put, e1_, e2_, e3_, i64_w, i32_w]
     rfl
    refine pure_ (i := 15) (N := some 29) (v := ?_) (a' := ?_) #[true, true, true, true, true, true, true, true, true, true, false, true, false, false, true, true, false, false, false, false] rfl rfl (any_of HT_.out (by kernel_rfl)) (fun _ _ _ h => h) (Or.inl ⟨by rfl, ?_⟩) ?_ ?_
    rotate_left
    ·
     intro w'
     go_simp
     with_reducible rfl
    rotate_left
    ·
     simp only [Act.put, e1_, e2_, e3_, i64_w, i32_w]
     rfl
    refine take_ (i := 10) (N := some 24) (v := ?_) (a' := ?_) #[true, true, true, true, true, true, true, true, true, true, true, true, false, false, true, true, false, false, false, false] rfl rfl (take_ofW HT_.out HW_.out (by kernel_rfl)) (fun _ _ _ h => h) (Or.inl ⟨by rfl, ?_⟩) hHeld ?_ ?_
    rotate_left
    ·
     rintro w' ⟨s0, s1, s2, s3, s4, s5, s6, s7, s8, s9, s10, s11, s12, s13⟩
     go_simp
     with_reducible rfl
    rotate_left
    ·
     simp only [Act.put, e1_, e2_, e3_, i64_w, i32_w]
     rfl
    refine take_ (i := 13) (N := some 27) (v := ?_) (a' := ?_) #[true, true, true, true, true, true, true, true, true, true, true, true, false, true, true, true, false, false, false, false] rfl rfl (take_ofW HT_.out HW_.out (by kernel_rfl)) (fun _ _ _ h => h) (Or.inl ⟨by rfl, ?_⟩) hHeld ?_ ?_
    rotate_left
    ·
     rintro w' ⟨s0, s1, s2, s3, s4, s5, s6, s7, s8, s9, s10, s11, s12, s13⟩
     go_simp
     with_reducible rfl
    rotate_left
    ·
     simp only [Act.put, e1_, e2_, e3_, i64_w, i32_w]
     rfl
    refine take_ (i := 16) (N := some 30) (v := ?_) (a' := ?_) #[true, true, true, true, true, true, true, true, true, true, true, true, false, true, true, true, true, false, false, false] rfl rfl (take_ofW HT_.out HW_.out (by kernel_rfl)) (fun _ _ _ h => h) (Or.inl ⟨by rfl, ?_⟩) hHeld ?_ ?_
    rotate_left
    ·
     rintro w' ⟨s0, s1, s2, s3, s4, s5, s6, s7, s8, s9, s10, s11, s12, s13⟩
     go_simp
     with_reducible rfl
    rotate_left
    ·
     simp only [Act.put, e1_, e2_, e3_, i64_w, i32_w]
     rfl
    refine one_ (i := 12) (N := some 26) qm17 rfl rfl (one_of HT_.out (by kernel_rfl)) (by decide) (fun K hK => ?_)
    refine goes_ Try.func33 (by kernel_rfl) rfl #[.agg #[.int .i64 t185, .int .i64 t186, .int .u32 t187, .int .i64 t188, .int .i64 t189, .int .i64 t190, .int .i64 t191], .int .u32 a1] (by rfl) rfl rfl (by (try simp only [List.map_toArray, List.map_cons, List.map_nil]); first|done|rfl|(simp only [List.length_drop, List.length_take]; rfl)) ?_
    with_reducible refine (grid_Config_IsSecond.calls k t185 t186 t187 t188 t189 t190 t191 a1 t195 _ A25.out).mono ?_
    rintro e w31 ⟨rfl, hb⟩
    refine ⟨_, rfl, ?_⟩
    have n0_:=K_ (blk_below (g := gb176) (o := .cells #[.int .i64 t178, .int .i64 t179, .int .u32 t180, .int .i64 t181, .int .i64 t182, .int .i64 t183, .int .i64 t184] 52 (0, 0)) (by (with_reducible repeat (first|refine bN_ ?_ _|refine bD_ ?_|refine bA_ ?_ _)); exact BK176.out) hb)
    have n1_:=K_ (blk_below (g := gb192) (o := .cells #[.int .i64 t185, .int .i64 t186, .int .u32 t187, .int .i64 t188, .int .i64 t189, .int .i64 t190, .int .i64 t191] 56 (0, 0)) (by (with_reducible repeat (first|refine bN_ ?_ _|refine bD_ ?_|refine bA_ ?_ _)); exact BK192.out) hb)
    have n2_:=K_ (below_step (by repeat (first|(with_reducible first|exact HB.out|apply pA_|apply pN_|apply pD_|refine bS_ ?_ GE176.out|refine bS_ ?_ GE192.out)|exact HB.out)) hb)
    clear BK176
    clear BK192
    clear HB
    have BK176:=n0_
    have BK192:=n1_
    have HB:=n2_
    clear n0_ n1_ n2_
    (try clear hb)
    (try clear hb2)
    (try clear hk)
    (try clear hi)
    refine hK.out _ _ ⟨(blk_cell BK192.out 0).trans rfl, (blk_cell BK192.out 1).trans rfl, (blk_cell BK192.out 2).trans rfl, (blk_cell BK192.out 3).trans rfl, (blk_cell BK192.out 4).trans rfl, (blk_cell BK192.out 5).trans rfl, (blk_cell BK192.out 6).trans rfl, (blk_cell BK176.out 0).trans rfl, (blk_cell BK176.out 1).trans rfl, (blk_cell BK176.out 2).trans rfl, (blk_cell BK176.out 3).trans rfl, (blk_cell BK176.out 4).trans rfl, (blk_cell BK176.out 5).trans rfl, (blk_cell BK176.out 6).trans rfl⟩ (fun hHeld => ?_)
    clear hK K
    refine norm_ (a' := ?_) ?_ ?_
    rotate_left
    ·
     show Act.put _ (some 26) _ = _
     simp only [Act.put, e1_, e2_, e3_, i64_w, i32_w]
     rfl
    refine one_ (i := 17) (N := some 31) qm18 rfl rfl (one_of HT_.out (by kernel_rfl)) (by decide) (fun K hK => ?_)
    refine goes_ Try.func32 (by kernel_rfl) rfl #[.agg #[.int .i64 t178, .int .i64 t179, .int .u32 t180, .int .i64 t181, .int .i64 t182, .int .i64 t183, .int .i64 t184], .int .u32 a1, .agg #[.int .i64 t183, .int .i64 t184]] (by rfl) rfl rfl (by (try simp only [List.map_toArray, List.map_cons, List.map_nil]); first|done|rfl|(simp only [List.length_drop, List.length_take]; rfl)) ?_
    with_reducible refine (chatelaineref07_Quorum.calls k t178 t179 t180 t181 t182 t183 t184 a1 t183 t184 t196 _ A26.out).mono ?_
    rintro e w32 ⟨rfl, hb⟩
    refine ⟨_, rfl, ?_⟩
    have n0_:=K_ (blk_below (g := gb176) (o := .cells #[.int .i64 t178, .int .i64 t179, .int .u32 t180, .int .i64 t181, .int .i64 t182, .int .i64 t183, .int .i64 t184] 52 (0, 0)) (by (with_reducible repeat (first|refine bN_ ?_ _|refine bD_ ?_|refine bA_ ?_ _)); exact BK176.out) hb)
    have n1_:=K_ (blk_below (g := gb192) (o := .cells #[.int .i64 t185, .int .i64 t186, .int .u32 t187, .int .i64 t188, .int .i64 t189, .int .i64 t190, .int .i64 t191] 56 (0, 0)) (by (with_reducible repeat (first|refine bN_ ?_ _|refine bD_ ?_|refine bA_ ?_ _)); exact BK192.out) hb)
    have n2_:=K_ (below_step (by repeat (first|(with_reducible first|exact HB.out|apply pA_|apply pN_|apply pD_|refine bS_ ?_ GE176.out|refine bS_ ?_ GE192.out)|exact HB.out)) hb)
    clear BK176
    clear BK192
    clear HB
    have BK176:=n0_
    have BK192:=n1_
    have HB:=n2_
    clear n0_ n1_ n2_
    (try clear hb)
    (try clear hb2)
    (try clear hk)
    (try clear hi)
    refine hK.out _ _ ⟨(blk_cell BK192.out 0).trans rfl, (blk_cell BK192.out 1).trans rfl, (blk_cell BK192.out 2).trans rfl, (blk_cell BK192.out 3).trans rfl, (blk_cell BK192.out 4).trans rfl, (blk_cell BK192.out 5).trans rfl, (blk_cell BK192.out 6).trans rfl, (blk_cell BK176.out 0).trans rfl, (blk_cell BK176.out 1).trans rfl, (blk_cell BK176.out 2).trans rfl, (blk_cell BK176.out 3).trans rfl, (blk_cell BK176.out 4).trans rfl, (blk_cell BK176.out 5).trans rfl, (blk_cell BK176.out 6).trans rfl⟩ (fun hHeld => ?_)
    clear hK K
    refine norm_ (a' := ?_) ?_ ?_
    rotate_left
    ·
     show Act.put _ (some 31) _ = _
     simp only [Act.put, e1_, e2_, e3_, i64_w, i32_w]
     rfl
    refine pure_ (i := 18) (N := some 32) (v := ?_) (a' := ?_) qm19 rfl rfl (any_of HT_.out (by kernel_rfl)) (fun _ _ _ h => h) (Or.inl ⟨by rfl, ?_⟩) ?_ ?_
    rotate_left
    ·
     intro w'
     go_simp
     with_reducible rfl
    rotate_left
    ·
     simp only [Act.put, e1_, e2_, e3_, i64_w, i32_w]
     rfl
    refine pure_ (i := 19) (N := some 33) (v := ?_) (a' := ?_) qm20 rfl rfl (any_of HT_.out (by kernel_rfl)) (fun _ _ _ h => h) (Or.inl ⟨by rfl, ?_⟩) ?_ ?_
    rotate_left
    ·
     intro w'
     go_simp
     with_reducible rfl
    rotate_left
    ·
     simp only [Act.put, e1_, e2_, e3_, i64_w, i32_w]
     rfl
    refine done_ (done_of HT_.out (by kernel_rfl)) ?_
    try go_wp2
    go_meet
    case rel => exact ⟨_, ((t195 != t196)), (by first|rfl|(simp; done)|(simp [*]; done)), H', ⟨by first|omega|exact Nat.le_refl _⟩, ⟨by (with_reducible repeat (first|refine bN_ ?_ _|refine bD_ ?_|refine bA_ ?_ _)); exact BK176.out⟩, ⟨by (with_reducible repeat (first|refine bN_ ?_ _|refine bD_ ?_|refine bA_ ?_ _)); exact BK192.out⟩, ⟨by repeat (first|(with_reducible first|exact HB.out|apply pA_|apply pN_|apply pD_|refine bS_ ?_ GE176.out|refine bS_ ?_ GE192.out)|exact HB.out)⟩⟩
  case rest =>
   clear HC8
   try clear c1
   try clear c2
   try clear p2
   try clear c3
   try clear c5
   try clear c9
   try clear c16
   try clear c20
   try clear c20b0
   try clear c20b1
   try clear c20b2
   try clear c25
   try clear c27
   try clear c30
   try clear c31
   try clear c32
   try clear hcz11_0
   try clear hcz11_1
   try clear hcz11_2
   try clear hcz11_3
   try clear hcz11_4
   try clear hcz11_5
   try clear hcz11_6
   try clear hcz13_0
   try clear hcz13_1
   try clear hcz13_2
   try clear hcz13_3
   try clear hcz13_4
   try clear hcz13_5
   try clear hcz13_6
   try clear hcz17_0
   try clear hcz17_1
   try clear hcz17_2
   try clear hcz17_3
   try clear hcz17_4
   try clear hcz17_5
   try clear hcz17_6
   try clear hfz11_0
   try clear hfz11_1
   try clear hfz11_2
   try clear hfz11_3
   try clear hfz11_4
   try clear hfz11_5
   try clear hfz11_6
   try clear hfz13_0
   try clear hfz13_1
   try clear hfz13_2
   try clear hfz13_3
   try clear hfz13_4
   try clear hfz13_5
   try clear hfz13_6
   try clear hfz17_0
   try clear hfz17_1
   try clear hfz17_2
   try clear hfz17_3
   try clear hfz17_4
   try clear hfz17_5
   try clear hfz17_6
   obtain ⟨kq, x33_7, rfl, HA, HJ7, BK176, BK192, HB⟩ := hcut
   cases kq with
   | zero => exact absurd HA.out (by simp [j0])
   | succ kj7 =>
    have H:=HA.out
    clear HA
    simp only [j0] at H
    by_cases c33 : x33_7 = true
    ·
     subst c33
     have H1 : (some false) = some r := by rw [if_pos rfl] at H; exact H
     clear H
     have H:=H1
     clear H1
     obtain rfl := Option.some.inj H
     exact absurd hr_ (by decide)
    ·
     replace c33 := Bool.eq_false_iff.mpr c33
     subst c33
     have H1 : ((grid_Config_IsFirst.f kj7 t185 t186 t187 t188 t189 t190 t191 a1).bind fun t197 => (if t197 = true then ((grid_Config_IsFirst.f kj7 t185 t186 t187 t188 t189 t190 t191 (Go.bits .or .u32 a1 a2)).bind fun t198 => (if t198 = true then ((grid_Config_IsSecond.f kj7 t185 t186 t187 t188 t189 t190 t191 a1).bind fun t199 => (if t199 = true then ((grid_Config_IsSecond.f kj7 t185 t186 t187 t188 t189 t190 t191 (Go.bits .or .u32 a1 a2)).bind fun t200 => (if t200 = true then ((grid_Config_All.f kj7 t185 t186 t187 t188 t189 t190 t191).bind fun t201 => ((grid_Config_IsFirst.f kj7 t185 t186 t187 t188 t189 t190 t191 t201).bind fun t202 => (if t202 = true then ((grid_Config_All.f kj7 t185 t186 t187 t188 t189 t190 t191).bind fun t203 => ((grid_Config_IsSecond.f kj7 t185 t186 t187 t188 t189 t190 t191 t203).bind fun t204 => (if t204 = true then ((grid_Config_IsFirst.f kj7 t185 t186 t187 t188 t189 t190 t191 0).bind fun t205 => (if t205 = true then (some false) else ((grid_Config_IsSecond.f kj7 t185 t186 t187 t188 t189 t190 t191 0).bind fun t206 => (some (!t206))))) else (some false)))) else (some false)))) else (some false))) else ((grid_Config_All.f kj7 t185 t186 t187 t188 t189 t190 t191).bind fun t207 => ((grid_Config_IsFirst.f kj7 t185 t186 t187 t188 t189 t190 t191 t207).bind fun t208 => (if t208 = true then ((grid_Config_All.f kj7 t185 t186 t187 t188 t189 t190 t191).bind fun t209 => ((grid_Config_IsSecond.f kj7 t185 t186 t187 t188 t189 t190 t191 t209).bind fun t210 => (if t210 = true then ((grid_Config_IsFirst.f kj7 t185 t186 t187 t188 t189 t190 t191 0).bind fun t211 => (if t211 = true then (some false) else ((grid_Config_IsSecond.f kj7 t185 t186 t187 t188 t189 t190 t191 0).bind fun t212 => (some (!t212))))) else (some false)))) else (some false)))))) else (some false))) else ((grid_Config_IsSecond.f kj7 t185 t186 t187 t188 t189 t190 t191 a1).bind fun t213 => (if t213 = true then ((grid_Config_IsSecond.f kj7 t185 t186 t187 t188 t189 t190 t191 (Go.bits .or .u32 a1 a2)).bind fun t214 => (if t214 = true then ((grid_Config_All.f kj7 t185 t186 t187 t188 t189 t190 t191).bind fun t215 => ((grid_Config_IsFirst.f kj7 t185 t186 t187 t188 t189 t190 t191 t215).bind fun t216 => (if t216 = true then ((grid_Config_All.f kj7 t185 t186 t187 t188 t189 t190 t191).bind fun t217 => ((grid_Config_IsSecond.f kj7 t185 t186 t187 t188 t189 t190 t191 t217).bind fun t218 => (if t218 = true then ((grid_Config_IsFirst.f kj7 t185 t186 t187 t188 t189 t190 t191 0).bind fun t219 => (if t219 = true then (some false) else ((grid_Config_IsSecond.f kj7 t185 t186 t187 t188 t189 t190 t191 0).bind fun t220 => (some (!t220))))) else (some false)))) else (some false)))) else (some false))) else ((grid_Config_All.f kj7 t185 t186 t187 t188 t189 t190 t191).bind fun t221 => ((grid_Config_IsFirst.f kj7 t185 t186 t187 t188 t189 t190 t191 t221).bind fun t222 => (if t222 = true then ((grid_Config_All.f kj7 t185 t186 t187 t188 t189 t190 t191).bind fun t223 => ((grid_Config_IsSecond.f kj7 t185 t186 t187 t188 t189 t190 t191 t223).bind fun t224 => (if t224 = true then ((grid_Config_IsFirst.f kj7 t185 t186 t187 t188 t189 t190 t191 0).bind fun t225 => (if t225 = true then (some false) else ((grid_Config_IsSecond.f kj7 t185 t186 t187 t188 t189 t190 t191 0).bind fun t226 => (some (!t226))))) else (some false)))) else (some false)))))))) = some r := by rw [if_neg (show ¬ (false = true) by decide)] at H; exact H
     clear H
     have H:=H1
     clear H1
     replace H := Option.bind_eq_some_iff.mp H
     obtain ⟨t197, A340, H⟩ := H
     replace H : (if t197 = true then ((grid_Config_IsFirst.f kj7 t185 t186 t187 t188 t189 t190 t191 (Go.bits .or .u32 a1 a2)).bind fun t198 => (if t198 = true then ((grid_Config_IsSecond.f kj7 t185 t186 t187 t188 t189 t190 t191 a1).bind fun t199 => (if t199 = true then ((grid_Config_IsSecond.f kj7 t185 t186 t187 t188 t189 t190 t191 (Go.bits .or .u32 a1 a2)).bind fun t200 => (if t200 = true then ((grid_Config_All.f kj7 t185 t186 t187 t188 t189 t190 t191).bind fun t201 => ((grid_Config_IsFirst.f kj7 t185 t186 t187 t188 t189 t190 t191 t201).bind fun t202 => (if t202 = true then ((grid_Config_All.f kj7 t185 t186 t187 t188 t189 t190 t191).bind fun t203 => ((grid_Config_IsSecond.f kj7 t185 t186 t187 t188 t189 t190 t191 t203).bind fun t204 => (if t204 = true then ((grid_Config_IsFirst.f kj7 t185 t186 t187 t188 t189 t190 t191 0).bind fun t205 => (if t205 = true then (some false) else ((grid_Config_IsSecond.f kj7 t185 t186 t187 t188 t189 t190 t191 0).bind fun t206 => (some (!t206))))) else (some false)))) else (some false)))) else (some false))) else ((grid_Config_All.f kj7 t185 t186 t187 t188 t189 t190 t191).bind fun t207 => ((grid_Config_IsFirst.f kj7 t185 t186 t187 t188 t189 t190 t191 t207).bind fun t208 => (if t208 = true then ((grid_Config_All.f kj7 t185 t186 t187 t188 t189 t190 t191).bind fun t209 => ((grid_Config_IsSecond.f kj7 t185 t186 t187 t188 t189 t190 t191 t209).bind fun t210 => (if t210 = true then ((grid_Config_IsFirst.f kj7 t185 t186 t187 t188 t189 t190 t191 0).bind fun t211 => (if t211 = true then (some false) else ((grid_Config_IsSecond.f kj7 t185 t186 t187 t188 t189 t190 t191 0).bind fun t212 => (some (!t212))))) else (some false)))) else (some false)))))) else (some false))) else ((grid_Config_IsSecond.f kj7 t185 t186 t187 t188 t189 t190 t191 a1).bind fun t213 => (if t213 = true then ((grid_Config_IsSecond.f kj7 t185 t186 t187 t188 t189 t190 t191 (Go.bits .or .u32 a1 a2)).bind fun t214 => (if t214 = true then ((grid_Config_All.f kj7 t185 t186 t187 t188 t189 t190 t191).bind fun t215 => ((grid_Config_IsFirst.f kj7 t185 t186 t187 t188 t189 t190 t191 t215).bind fun t216 => (if t216 = true then ((grid_Config_All.f kj7 t185 t186 t187 t188 t189 t190 t191).bind fun t217 => ((grid_Config_IsSecond.f kj7 t185 t186 t187 t188 t189 t190 t191 t217).bind fun t218 => (if t218 = true then ((grid_Config_IsFirst.f kj7 t185 t186 t187 t188 t189 t190 t191 0).bind fun t219 => (if t219 = true then (some false) else ((grid_Config_IsSecond.f kj7 t185 t186 t187 t188 t189 t190 t191 0).bind fun t220 => (some (!t220))))) else (some false)))) else (some false)))) else (some false))) else ((grid_Config_All.f kj7 t185 t186 t187 t188 t189 t190 t191).bind fun t221 => ((grid_Config_IsFirst.f kj7 t185 t186 t187 t188 t189 t190 t191 t221).bind fun t222 => (if t222 = true then ((grid_Config_All.f kj7 t185 t186 t187 t188 t189 t190 t191).bind fun t223 => ((grid_Config_IsSecond.f kj7 t185 t186 t187 t188 t189 t190 t191 t223).bind fun t224 => (if t224 = true then ((grid_Config_IsFirst.f kj7 t185 t186 t187 t188 t189 t190 t191 0).bind fun t225 => (if t225 = true then (some false) else ((grid_Config_IsSecond.f kj7 t185 t186 t187 t188 t189 t190 t191 0).bind fun t226 => (some (!t226))))) else (some false)))) else (some false))))))) = some r := H
     have A34:=K_ A340
     clear A340
     by_cases c35 : t197 = true
     ·
      subst c35
      have H1 : ((grid_Config_IsFirst.f kj7 t185 t186 t187 t188 t189 t190 t191 (Go.bits .or .u32 a1 a2)).bind fun t198 => (if t198 = true then ((grid_Config_IsSecond.f kj7 t185 t186 t187 t188 t189 t190 t191 a1).bind fun t199 => (if t199 = true then ((grid_Config_IsSecond.f kj7 t185 t186 t187 t188 t189 t190 t191 (Go.bits .or .u32 a1 a2)).bind fun t200 => (if t200 = true then ((grid_Config_All.f kj7 t185 t186 t187 t188 t189 t190 t191).bind fun t201 => ((grid_Config_IsFirst.f kj7 t185 t186 t187 t188 t189 t190 t191 t201).bind fun t202 => (if t202 = true then ((grid_Config_All.f kj7 t185 t186 t187 t188 t189 t190 t191).bind fun t203 => ((grid_Config_IsSecond.f kj7 t185 t186 t187 t188 t189 t190 t191 t203).bind fun t204 => (if t204 = true then ((grid_Config_IsFirst.f kj7 t185 t186 t187 t188 t189 t190 t191 0).bind fun t205 => (if t205 = true then (some false) else ((grid_Config_IsSecond.f kj7 t185 t186 t187 t188 t189 t190 t191 0).bind fun t206 => (some (!t206))))) else (some false)))) else (some false)))) else (some false))) else ((grid_Config_All.f kj7 t185 t186 t187 t188 t189 t190 t191).bind fun t207 => ((grid_Config_IsFirst.f kj7 t185 t186 t187 t188 t189 t190 t191 t207).bind fun t208 => (if t208 = true then ((grid_Config_All.f kj7 t185 t186 t187 t188 t189 t190 t191).bind fun t209 => ((grid_Config_IsSecond.f kj7 t185 t186 t187 t188 t189 t190 t191 t209).bind fun t210 => (if t210 = true then ((grid_Config_IsFirst.f kj7 t185 t186 t187 t188 t189 t190 t191 0).bind fun t211 => (if t211 = true then (some false) else ((grid_Config_IsSecond.f kj7 t185 t186 t187 t188 t189 t190 t191 0).bind fun t212 => (some (!t212))))) else (some false)))) else (some false)))))) else (some false))) = some r := by rw [if_pos rfl] at H; exact H
      clear H
      have H:=H1
      clear H1
      replace H := Option.bind_eq_some_iff.mp H
      obtain ⟨t198, A360, H⟩ := H
      replace H : (if t198 = true then ((grid_Config_IsSecond.f kj7 t185 t186 t187 t188 t189 t190 t191 a1).bind fun t199 => (if t199 = true then ((grid_Config_IsSecond.f kj7 t185 t186 t187 t188 t189 t190 t191 (Go.bits .or .u32 a1 a2)).bind fun t200 => (if t200 = true then ((grid_Config_All.f kj7 t185 t186 t187 t188 t189 t190 t191).bind fun t201 => ((grid_Config_IsFirst.f kj7 t185 t186 t187 t188 t189 t190 t191 t201).bind fun t202 => (if t202 = true then ((grid_Config_All.f kj7 t185 t186 t187 t188 t189 t190 t191).bind fun t203 => ((grid_Config_IsSecond.f kj7 t185 t186 t187 t188 t189 t190 t191 t203).bind fun t204 => (if t204 = true then ((grid_Config_IsFirst.f kj7 t185 t186 t187 t188 t189 t190 t191 0).bind fun t205 => (if t205 = true then (some false) else ((grid_Config_IsSecond.f kj7 t185 t186 t187 t188 t189 t190 t191 0).bind fun t206 => (some (!t206))))) else (some false)))) else (some false)))) else (some false))) else ((grid_Config_All.f kj7 t185 t186 t187 t188 t189 t190 t191).bind fun t207 => ((grid_Config_IsFirst.f kj7 t185 t186 t187 t188 t189 t190 t191 t207).bind fun t208 => (if t208 = true then ((grid_Config_All.f kj7 t185 t186 t187 t188 t189 t190 t191).bind fun t209 => ((grid_Config_IsSecond.f kj7 t185 t186 t187 t188 t189 t190 t191 t209).bind fun t210 => (if t210 = true then ((grid_Config_IsFirst.f kj7 t185 t186 t187 t188 t189 t190 t191 0).bind fun t211 => (if t211 = true then (some false) else ((grid_Config_IsSecond.f kj7 t185 t186 t187 t188 t189 t190 t191 0).bind fun t212 => (some (!t212))))) else (some false)))) else (some false)))))) else (some false)) = some r := H
      have A36:=K_ A360
      clear A360
      by_cases c37 : t198 = true
      ·
       subst c37
       have H1 : ((grid_Config_IsSecond.f kj7 t185 t186 t187 t188 t189 t190 t191 a1).bind fun t199 => (if t199 = true then ((grid_Config_IsSecond.f kj7 t185 t186 t187 t188 t189 t190 t191 (Go.bits .or .u32 a1 a2)).bind fun t200 => (if t200 = true then ((grid_Config_All.f kj7 t185 t186 t187 t188 t189 t190 t191).bind fun t201 => ((grid_Config_IsFirst.f kj7 t185 t186 t187 t188 t189 t190 t191 t201).bind fun t202 => (if t202 = true then ((grid_Config_All.f kj7 t185 t186 t187 t188 t189 t190 t191).bind fun t203 => ((grid_Config_IsSecond.f kj7 t185 t186 t187 t188 t189 t190 t191 t203).bind fun t204 => (if t204 = true then ((grid_Config_IsFirst.f kj7 t185 t186 t187 t188 t189 t190 t191 0).bind fun t205 => (if t205 = true then (some false) else ((grid_Config_IsSecond.f kj7 t185 t186 t187 t188 t189 t190 t191 0).bind fun t206 => (some (!t206))))) else (some false)))) else (some false)))) else (some false))) else ((grid_Config_All.f kj7 t185 t186 t187 t188 t189 t190 t191).bind fun t207 => ((grid_Config_IsFirst.f kj7 t185 t186 t187 t188 t189 t190 t191 t207).bind fun t208 => (if t208 = true then ((grid_Config_All.f kj7 t185 t186 t187 t188 t189 t190 t191).bind fun t209 => ((grid_Config_IsSecond.f kj7 t185 t186 t187 t188 t189 t190 t191 t209).bind fun t210 => (if t210 = true then ((grid_Config_IsFirst.f kj7 t185 t186 t187 t188 t189 t190 t191 0).bind fun t211 => (if t211 = true then (some false) else ((grid_Config_IsSecond.f kj7 t185 t186 t187 t188 t189 t190 t191 0).bind fun t212 => (some (!t212))))) else (some false)))) else (some false)))))) = some r := by rw [if_pos rfl] at H; exact H
       clear H
       have H:=H1
       clear H1
       replace H := Option.bind_eq_some_iff.mp H
       obtain ⟨t199, A380, H⟩ := H
       replace H : (if t199 = true then ((grid_Config_IsSecond.f kj7 t185 t186 t187 t188 t189 t190 t191 (Go.bits .or .u32 a1 a2)).bind fun t200 => (if t200 = true then ((grid_Config_All.f kj7 t185 t186 t187 t188 t189 t190 t191).bind fun t201 => ((grid_Config_IsFirst.f kj7 t185 t186 t187 t188 t189 t190 t191 t201).bind fun t202 => (if t202 = true then ((grid_Config_All.f kj7 t185 t186 t187 t188 t189 t190 t191).bind fun t203 => ((grid_Config_IsSecond.f kj7 t185 t186 t187 t188 t189 t190 t191 t203).bind fun t204 => (if t204 = true then ((grid_Config_IsFirst.f kj7 t185 t186 t187 t188 t189 t190 t191 0).bind fun t205 => (if t205 = true then (some false) else ((grid_Config_IsSecond.f kj7 t185 t186 t187 t188 t189 t190 t191 0).bind fun t206 => (some (!t206))))) else (some false)))) else (some false)))) else (some false))) else ((grid_Config_All.f kj7 t185 t186 t187 t188 t189 t190 t191).bind fun t207 => ((grid_Config_IsFirst.f kj7 t185 t186 t187 t188 t189 t190 t191 t207).bind fun t208 => (if t208 = true then ((grid_Config_All.f kj7 t185 t186 t187 t188 t189 t190 t191).bind fun t209 => ((grid_Config_IsSecond.f kj7 t185 t186 t187 t188 t189 t190 t191 t209).bind fun t210 => (if t210 = true then ((grid_Config_IsFirst.f kj7 t185 t186 t187 t188 t189 t190 t191 0).bind fun t211 => (if t211 = true then (some false) else ((grid_Config_IsSecond.f kj7 t185 t186 t187 t188 t189 t190 t191 0).bind fun t212 => (some (!t212))))) else (some false)))) else (some false))))) = some r := H
       have A38:=K_ A380
       clear A380
       by_cases c39 : t199 = true
       ·
        subst c39
        have H1 : ((grid_Config_IsSecond.f kj7 t185 t186 t187 t188 t189 t190 t191 (Go.bits .or .u32 a1 a2)).bind fun t200 => (if t200 = true then ((grid_Config_All.f kj7 t185 t186 t187 t188 t189 t190 t191).bind fun t201 => ((grid_Config_IsFirst.f kj7 t185 t186 t187 t188 t189 t190 t191 t201).bind fun t202 => (if t202 = true then ((grid_Config_All.f kj7 t185 t186 t187 t188 t189 t190 t191).bind fun t203 => ((grid_Config_IsSecond.f kj7 t185 t186 t187 t188 t189 t190 t191 t203).bind fun t204 => (if t204 = true then ((grid_Config_IsFirst.f kj7 t185 t186 t187 t188 t189 t190 t191 0).bind fun t205 => (if t205 = true then (some false) else ((grid_Config_IsSecond.f kj7 t185 t186 t187 t188 t189 t190 t191 0).bind fun t206 => (some (!t206))))) else (some false)))) else (some false)))) else (some false))) = some r := by rw [if_pos rfl] at H; exact H
        clear H
        have H:=H1
        clear H1
        replace H := Option.bind_eq_some_iff.mp H
        obtain ⟨t200, A400, H⟩ := H
        replace H : (if t200 = true then ((grid_Config_All.f kj7 t185 t186 t187 t188 t189 t190 t191).bind fun t201 => ((grid_Config_IsFirst.f kj7 t185 t186 t187 t188 t189 t190 t191 t201).bind fun t202 => (if t202 = true then ((grid_Config_All.f kj7 t185 t186 t187 t188 t189 t190 t191).bind fun t203 => ((grid_Config_IsSecond.f kj7 t185 t186 t187 t188 t189 t190 t191 t203).bind fun t204 => (if t204 = true then ((grid_Config_IsFirst.f kj7 t185 t186 t187 t188 t189 t190 t191 0).bind fun t205 => (if t205 = true then (some false) else ((grid_Config_IsSecond.f kj7 t185 t186 t187 t188 t189 t190 t191 0).bind fun t206 => (some (!t206))))) else (some false)))) else (some false)))) else (some false)) = some r := H
        have A40:=K_ A400
        clear A400
        by_cases c41 : t200 = true
        ·
         subst c41
         have H1 : ((grid_Config_All.f kj7 t185 t186 t187 t188 t189 t190 t191).bind fun t201 => ((grid_Config_IsFirst.f kj7 t185 t186 t187 t188 t189 t190 t191 t201).bind fun t202 => (if t202 = true then ((grid_Config_All.f kj7 t185 t186 t187 t188 t189 t190 t191).bind fun t203 => ((grid_Config_IsSecond.f kj7 t185 t186 t187 t188 t189 t190 t191 t203).bind fun t204 => (if t204 = true then ((grid_Config_IsFirst.f kj7 t185 t186 t187 t188 t189 t190 t191 0).bind fun t205 => (if t205 = true then (some false) else ((grid_Config_IsSecond.f kj7 t185 t186 t187 t188 t189 t190 t191 0).bind fun t206 => (some (!t206))))) else (some false)))) else (some false)))) = some r := by rw [if_pos rfl] at H; exact H
         clear H
         have H:=H1
         clear H1
         replace H := Option.bind_eq_some_iff.mp H
         obtain ⟨t201, A420, H⟩ := H
         replace H : ((grid_Config_IsFirst.f kj7 t185 t186 t187 t188 t189 t190 t191 t201).bind fun t202 => (if t202 = true then ((grid_Config_All.f kj7 t185 t186 t187 t188 t189 t190 t191).bind fun t203 => ((grid_Config_IsSecond.f kj7 t185 t186 t187 t188 t189 t190 t191 t203).bind fun t204 => (if t204 = true then ((grid_Config_IsFirst.f kj7 t185 t186 t187 t188 t189 t190 t191 0).bind fun t205 => (if t205 = true then (some false) else ((grid_Config_IsSecond.f kj7 t185 t186 t187 t188 t189 t190 t191 0).bind fun t206 => (some (!t206))))) else (some false)))) else (some false))) = some r := H
         have A42:=K_ A420
         clear A420
         replace H := Option.bind_eq_some_iff.mp H
         obtain ⟨t202, A430, H⟩ := H
         replace H : (if t202 = true then ((grid_Config_All.f kj7 t185 t186 t187 t188 t189 t190 t191).bind fun t203 => ((grid_Config_IsSecond.f kj7 t185 t186 t187 t188 t189 t190 t191 t203).bind fun t204 => (if t204 = true then ((grid_Config_IsFirst.f kj7 t185 t186 t187 t188 t189 t190 t191 0).bind fun t205 => (if t205 = true then (some false) else ((grid_Config_IsSecond.f kj7 t185 t186 t187 t188 t189 t190 t191 0).bind fun t206 => (some (!t206))))) else (some false)))) else (some false)) = some r := H
         have A43:=K_ A430
         clear A430
         by_cases c44 : t202 = true
         ·
          subst c44
          have H1 : ((grid_Config_All.f kj7 t185 t186 t187 t188 t189 t190 t191).bind fun t203 => ((grid_Config_IsSecond.f kj7 t185 t186 t187 t188 t189 t190 t191 t203).bind fun t204 => (if t204 = true then ((grid_Config_IsFirst.f kj7 t185 t186 t187 t188 t189 t190 t191 0).bind fun t205 => (if t205 = true then (some false) else ((grid_Config_IsSecond.f kj7 t185 t186 t187 t188 t189 t190 t191 0).bind fun t206 => (some (!t206))))) else (some false)))) = some r := by rw [if_pos rfl] at H; exact H
          clear H
          have H:=H1
          clear H1
          replace H := Option.bind_eq_some_iff.mp H
          obtain ⟨t203, A450, H⟩ := H
          replace H : ((grid_Config_IsSecond.f kj7 t185 t186 t187 t188 t189 t190 t191 t203).bind fun t204 => (if t204 = true then ((grid_Config_IsFirst.f kj7 t185 t186 t187 t188 t189 t190 t191 0).bind fun t205 => (if t205 = true then (some false) else ((grid_Config_IsSecond.f kj7 t185 t186 t187 t188 t189 t190 t191 0).bind fun t206 => (some (!t206))))) else (some false))) = some r := H
          have A45:=K_ A450
          clear A450
          replace H := Option.bind_eq_some_iff.mp H
          obtain ⟨t204, A460, H⟩ := H
          replace H : (if t204 = true then ((grid_Config_IsFirst.f kj7 t185 t186 t187 t188 t189 t190 t191 0).bind fun t205 => (if t205 = true then (some false) else ((grid_Config_IsSecond.f kj7 t185 t186 t187 t188 t189 t190 t191 0).bind fun t206 => (some (!t206))))) else (some false)) = some r := H
          have A46:=K_ A460
          clear A460
          by_cases c47 : t204 = true
          ·
           subst c47
           have H1 : ((grid_Config_IsFirst.f kj7 t185 t186 t187 t188 t189 t190 t191 0).bind fun t205 => (if t205 = true then (some false) else ((grid_Config_IsSecond.f kj7 t185 t186 t187 t188 t189 t190 t191 0).bind fun t206 => (some (!t206))))) = some r := by rw [if_pos rfl] at H; exact H
           clear H
           have H:=H1
           clear H1
           replace H := Option.bind_eq_some_iff.mp H
           obtain ⟨t205, A480, H⟩ := H
           replace H : (if t205 = true then (some false) else ((grid_Config_IsSecond.f kj7 t185 t186 t187 t188 t189 t190 t191 0).bind fun t206 => (some (!t206)))) = some r := H
           have A48:=K_ A480
           clear A480
           by_cases c49 : t205 = true
           ·
            subst c49
            have H1 : (some false) = some r := by rw [if_pos rfl] at H; exact H
            clear H
            have H:=H1
            clear H1
            obtain rfl := Option.some.inj H
            exact absurd hr_ (by decide)
           ·
            replace c49 := Bool.eq_false_iff.mpr c49
            subst c49
            have H1 : ((grid_Config_IsSecond.f kj7 t185 t186 t187 t188 t189 t190 t191 0).bind fun t206 => (some (!t206))) = some r := by rw [if_neg (show ¬ (false = true) by decide)] at H; exact H
            clear H
            have H:=H1
            clear H1
            replace H := Option.bind_eq_some_iff.mp H
            obtain ⟨t206, A500, H⟩ := H
            replace H : (some (!t206)) = some r := H
            have A50:=K_ A500
            clear A500
            obtain rfl := Option.some.inj H
            clear hr_
            try go_wp2
            have n0_:=K_ (bD_ BK176.out)
            have n1_:=K_ (bD_ BK192.out)
            have n2_:=K_ (pD_ HB.out)
            clear BK176
            clear BK192
            clear HB
            have BK176:=n0_
            have BK192:=n1_
            have HB:=n2_
            clear n0_ n1_ n2_
            refine start_ (n := 47) (S := fun w' => w'.cell? ⟨gb192, 0, none⟩ = some (.int .i64 t185) ∧ w'.cell? ⟨gb192, 1, none⟩ = some (.int .i64 t186) ∧ w'.cell? ⟨gb192, 2, none⟩ = some (.int .u32 t187) ∧ w'.cell? ⟨gb192, 3, none⟩ = some (.int .i64 t188) ∧ w'.cell? ⟨gb192, 4, none⟩ = some (.int .i64 t189) ∧ w'.cell? ⟨gb192, 5, none⟩ = some (.int .i64 t190) ∧ w'.cell? ⟨gb192, 6, none⟩ = some (.int .i64 t191)) (ds := []) qm27 (by kernel_rfl) rfl rfl ⟨(blk_cell BK192.out 0).trans rfl, (blk_cell BK192.out 1).trans rfl, (blk_cell BK192.out 2).trans rfl, (blk_cell BK192.out 3).trans rfl, (blk_cell BK192.out 4).trans rfl, (blk_cell BK192.out 5).trans rfl, (blk_cell BK192.out 6).trans rfl⟩ (fun hHeld => ?_); refine with_tabW chatelainelaw07_GridQuorums.tab7 chatelainelaw07_GridQuorums.bits7 (fun HT_ HW_ => ?_)
            generalize wc.drew = w51 at BK176 BK192 HB hHeld ⊢
            refine pure_ (i := 1) (N := some 35) (v := ?_) (a' := ?_) qm28 rfl rfl (any_of HT_.out (by kernel_rfl)) (fun _ _ _ h => h) (Or.inl ⟨by rfl, ?_⟩) ?_ ?_
            rotate_left
            ·
             intro w'
             go_simp
             with_reducible rfl
            rotate_left
            ·
             simp only [Act.put, e1_, e2_, e3_, i64_w, i32_w]
             rfl
            refine take_ (i := 0) (N := some 34) (v := ?_) (a' := ?_) qm29 rfl rfl (take_ofW HT_.out HW_.out (by kernel_rfl)) (fun _ _ _ h => h) (Or.inl ⟨by rfl, ?_⟩) hHeld ?_ ?_
            rotate_left
            ·
             rintro w' ⟨s0, s1, s2, s3, s4, s5, s6⟩
             go_simp
             with_reducible rfl
            rotate_left
            ·
             simp only [Act.put, e1_, e2_, e3_, i64_w, i32_w]
             rfl
            refine one_ (i := 2) (N := some 36) qm30 rfl rfl (one_of HT_.out (by kernel_rfl)) (by decide) (fun K hK => ?_)
            refine goes_ Try.func31 (by kernel_rfl) rfl #[.agg #[.int .i64 t185, .int .i64 t186, .int .u32 t187, .int .i64 t188, .int .i64 t189, .int .i64 t190, .int .i64 t191], .int .u32 a1] (by rfl) rfl rfl (by (try simp only [List.map_toArray, List.map_cons, List.map_nil]); first|done|rfl|(simp only [List.length_drop, List.length_take]; rfl)) ?_
            with_reducible refine (grid_Config_IsFirst.calls kj7 t185 t186 t187 t188 t189 t190 t191 a1 true _ A34.out).mono ?_
            rintro e w52 ⟨rfl, hb⟩
            refine ⟨_, rfl, ?_⟩
            have n0_:=K_ (blk_below (g := gb176) (o := .cells #[.int .i64 t178, .int .i64 t179, .int .u32 t180, .int .i64 t181, .int .i64 t182, .int .i64 t183, .int .i64 t184] 52 (0, 0)) (by (with_reducible repeat (first|refine bN_ ?_ _|refine bD_ ?_|refine bA_ ?_ _)); exact BK176.out) hb)
            have n1_:=K_ (blk_below (g := gb192) (o := .cells #[.int .i64 t185, .int .i64 t186, .int .u32 t187, .int .i64 t188, .int .i64 t189, .int .i64 t190, .int .i64 t191] 56 (0, 0)) (by (with_reducible repeat (first|refine bN_ ?_ _|refine bD_ ?_|refine bA_ ?_ _)); exact BK192.out) hb)
            have n2_:=K_ (below_step (by repeat (first|(with_reducible first|exact HB.out|apply pA_|apply pN_|apply pD_|refine bS_ ?_ GE176.out|refine bS_ ?_ GE192.out)|exact HB.out)) hb)
            clear BK176
            clear BK192
            clear HB
            have BK176:=n0_
            have BK192:=n1_
            have HB:=n2_
            clear n0_ n1_ n2_
            (try clear hb)
            (try clear hb2)
            (try clear hk)
            (try clear hi)
            refine hK.out _ _ ⟨(blk_cell BK192.out 0).trans rfl, (blk_cell BK192.out 1).trans rfl, (blk_cell BK192.out 2).trans rfl, (blk_cell BK192.out 3).trans rfl, (blk_cell BK192.out 4).trans rfl, (blk_cell BK192.out 5).trans rfl, (blk_cell BK192.out 6).trans rfl⟩ (fun hHeld => ?_)
            clear hK K
            refine norm_ (a' := ?_) ?_ ?_
            rotate_left
            ·
             show Act.put _ (some 36) _ = _
             simp only [Act.put, e1_, e2_, e3_, i64_w, i32_w]
             rfl
            refine pure_ (i := 3) (N := some 37) (v := ?_) (a' := ?_) qm31 rfl rfl (any_of HT_.out (by kernel_rfl)) (fun _ _ _ h => h) (Or.inl ⟨by rfl, ?_⟩) ?_ ?_
            rotate_left
            ·
             intro w'
             go_simp
             with_reducible rfl
            rotate_left
            ·
             simp only [Act.put, e1_, e2_, e3_, i64_w, i32_w]
             rfl
            refine pure_ (i := 4) (N := some 38) (v := ?_) (a' := ?_) qm32 rfl rfl (any_of HT_.out (by kernel_rfl)) (fun _ _ _ h => h) (Or.inl ⟨by rfl, ?_⟩) ?_ ?_
            rotate_left
            ·
             intro w'
             go_simp
             with_reducible rfl
            rotate_left
            ·
             simp only [Act.put, e1_, e2_, e3_, i64_w, i32_w]
             rfl
            refine pure_ (i := 6) (N := some 40) (v := ?_) (a' := ?_) qm33 rfl rfl (any_of HT_.out (by kernel_rfl)) (fun _ _ _ h => h) (Or.inl ⟨by rfl, ?_⟩) ?_ ?_
            rotate_left
            ·
             intro w'
             go_simp
             with_reducible rfl
            rotate_left
            ·
             simp only [Act.put, e1_, e2_, e3_, i64_w, i32_w]
             rfl
            refine pure_ (i := 7) (N := some 41) (v := ?_) (a' := ?_) qm34 rfl rfl (any_of HT_.out (by kernel_rfl)) (fun _ _ _ h => h) (Or.inl ⟨by rfl, ?_⟩) ?_ ?_
            rotate_left
            ·
             intro w'
             go_simp
             with_reducible rfl
            rotate_left
            ·
             simp only [Act.put, e1_, e2_, e3_, i64_w, i32_w]
             rfl
            refine pure_ (i := 8) (N := some 42) (v := ?_) (a' := ?_) qm35 rfl rfl (any_of HT_.out (by kernel_rfl)) (fun _ _ _ h => h) (Or.inl ⟨by rfl, ?_⟩) ?_ ?_
            rotate_left
            ·
             intro w'
             go_simp
             with_reducible rfl
            rotate_left
            ·
             simp only [Act.put, e1_, e2_, e3_, i64_w, i32_w]
             rfl
            refine take_ (i := 5) (N := some 39) (v := ?_) (a' := ?_) qm36 rfl rfl (take_ofW HT_.out HW_.out (by kernel_rfl)) (fun _ _ _ h => h) (Or.inl ⟨by rfl, ?_⟩) hHeld ?_ ?_
            rotate_left
            ·
             rintro w' ⟨s0, s1, s2, s3, s4, s5, s6⟩
             go_simp
             with_reducible rfl
            rotate_left
            ·
             simp only [Act.put, e1_, e2_, e3_, i64_w, i32_w]
             rfl
            refine one_ (i := 9) (N := some 43) qm37 rfl rfl (one_of HT_.out (by kernel_rfl)) (by decide) (fun K hK => ?_)
            refine goes_ Try.func31 (by kernel_rfl) rfl #[.agg #[.int .i64 t185, .int .i64 t186, .int .u32 t187, .int .i64 t188, .int .i64 t189, .int .i64 t190, .int .i64 t191], .int .u32 (Go.bits .or .u32 a1 a2)] (by rfl) rfl rfl (by (try simp only [List.map_toArray, List.map_cons, List.map_nil]); first|done|rfl|(simp only [List.length_drop, List.length_take]; rfl)) ?_
            with_reducible refine (grid_Config_IsFirst.calls kj7 t185 t186 t187 t188 t189 t190 t191 (Go.bits .or .u32 a1 a2) true _ A36.out).mono ?_
            rintro e w53 ⟨rfl, hb⟩
            refine ⟨_, rfl, ?_⟩
            have n0_:=K_ (blk_below (g := gb176) (o := .cells #[.int .i64 t178, .int .i64 t179, .int .u32 t180, .int .i64 t181, .int .i64 t182, .int .i64 t183, .int .i64 t184] 52 (0, 0)) (by (with_reducible repeat (first|refine bN_ ?_ _|refine bD_ ?_|refine bA_ ?_ _)); exact BK176.out) hb)
            have n1_:=K_ (blk_below (g := gb192) (o := .cells #[.int .i64 t185, .int .i64 t186, .int .u32 t187, .int .i64 t188, .int .i64 t189, .int .i64 t190, .int .i64 t191] 56 (0, 0)) (by (with_reducible repeat (first|refine bN_ ?_ _|refine bD_ ?_|refine bA_ ?_ _)); exact BK192.out) hb)
            have n2_:=K_ (below_step (by repeat (first|(with_reducible first|exact HB.out|apply pA_|apply pN_|apply pD_|refine bS_ ?_ GE176.out|refine bS_ ?_ GE192.out)|exact HB.out)) hb)
            clear BK176
            clear BK192
            clear HB
            have BK176:=n0_
            have BK192:=n1_
            have HB:=n2_
            clear n0_ n1_ n2_
            (try clear hb)
            (try clear hb2)
            (try clear hk)
            (try clear hi)
            refine hK.out _ _ ⟨(blk_cell BK192.out 0).trans rfl, (blk_cell BK192.out 1).trans rfl, (blk_cell BK192.out 2).trans rfl, (blk_cell BK192.out 3).trans rfl, (blk_cell BK192.out 4).trans rfl, (blk_cell BK192.out 5).trans rfl, (blk_cell BK192.out 6).trans rfl⟩ (fun hHeld => ?_)
            clear hK K
            refine norm_ (a' := ?_) ?_ ?_
            rotate_left
            ·
             show Act.put _ (some 43) _ = _
             simp only [Act.put, e1_, e2_, e3_, i64_w, i32_w]
             rfl
            refine pure_ (i := 10) (N := some 44) (v := ?_) (a' := ?_) qm38 rfl rfl (any_of HT_.out (by kernel_rfl)) (fun _ _ _ h => h) (Or.inl ⟨by rfl, ?_⟩) ?_ ?_
            rotate_left
            ·
             intro w'
             go_simp
             with_reducible rfl
            rotate_left
            ·
             simp only [Act.put, e1_, e2_, e3_, i64_w, i32_w]
             rfl
            refine pure_ (i := 11) (N := some 45) (v := ?_) (a' := ?_) qm39 rfl rfl (any_of HT_.out (by kernel_rfl)) (fun _ _ _ h => h) (Or.inl ⟨by rfl, ?_⟩) ?_ ?_
            rotate_left
            ·
             intro w'
             go_simp
             with_reducible rfl
            rotate_left
            ·
             simp only [Act.put, e1_, e2_, e3_, i64_w, i32_w]
             rfl
            refine pure_ (i := 13) (N := some 47) (v := ?_) (a' := ?_) qm40 rfl rfl (any_of HT_.out (by kernel_rfl)) (fun _ _ _ h => h) (Or.inl ⟨by rfl, ?_⟩) ?_ ?_
            rotate_left
            ·
             intro w'
             go_simp
             with_reducible rfl
            rotate_left
            ·
             simp only [Act.put, e1_, e2_, e3_, i64_w, i32_w]
             rfl
            refine take_ (i := 12) (N := some 46) (v := ?_) (a' := ?_) qm41 rfl rfl (take_ofW HT_.out HW_.out (by kernel_rfl)) (fun _ _ _ h => h) (Or.inl ⟨by rfl, ?_⟩) hHeld ?_ ?_
            rotate_left
            ·
             rintro w' ⟨s0, s1, s2, s3, s4, s5, s6⟩
             go_simp
             with_reducible rfl
            rotate_left
            ·
             simp only [Act.put, e1_, e2_, e3_, i64_w, i32_w]
             rfl
            refine one_ (i := 14) (N := some 48) qm42 rfl rfl (one_of HT_.out (by kernel_rfl)) (by decide) (fun K hK => ?_)
            refine goes_ Try.func33 (by kernel_rfl) rfl #[.agg #[.int .i64 t185, .int .i64 t186, .int .u32 t187, .int .i64 t188, .int .i64 t189, .int .i64 t190, .int .i64 t191], .int .u32 a1] (by rfl) rfl rfl (by (try simp only [List.map_toArray, List.map_cons, List.map_nil]); first|done|rfl|(simp only [List.length_drop, List.length_take]; rfl)) ?_
            with_reducible refine (grid_Config_IsSecond.calls kj7 t185 t186 t187 t188 t189 t190 t191 a1 true _ A38.out).mono ?_
            rintro e w54 ⟨rfl, hb⟩
            refine ⟨_, rfl, ?_⟩
            have n0_:=K_ (blk_below (g := gb176) (o := .cells #[.int .i64 t178, .int .i64 t179, .int .u32 t180, .int .i64 t181, .int .i64 t182, .int .i64 t183, .int .i64 t184] 52 (0, 0)) (by (with_reducible repeat (first|refine bN_ ?_ _|refine bD_ ?_|refine bA_ ?_ _)); exact BK176.out) hb)
            have n1_:=K_ (blk_below (g := gb192) (o := .cells #[.int .i64 t185, .int .i64 t186, .int .u32 t187, .int .i64 t188, .int .i64 t189, .int .i64 t190, .int .i64 t191] 56 (0, 0)) (by (with_reducible repeat (first|refine bN_ ?_ _|refine bD_ ?_|refine bA_ ?_ _)); exact BK192.out) hb)
            have n2_:=K_ (below_step (by repeat (first|(with_reducible first|exact HB.out|apply pA_|apply pN_|apply pD_|refine bS_ ?_ GE176.out|refine bS_ ?_ GE192.out)|exact HB.out)) hb)
            clear BK176
            clear BK192
            clear HB
            have BK176:=n0_
            have BK192:=n1_
            have HB:=n2_
            clear n0_ n1_ n2_
            (try clear hb)
            (try clear hb2)
            (try clear hk)
            (try clear hi)
            refine hK.out _ _ ⟨(blk_cell BK192.out 0).trans rfl, (blk_cell BK192.out 1).trans rfl, (blk_cell BK192.out 2).trans rfl, (blk_cell BK192.out 3).trans rfl, (blk_cell BK192.out 4).trans rfl, (blk_cell BK192.out 5).trans rfl, (blk_cell BK192.out 6).trans rfl⟩ (fun hHeld => ?_)
            clear hK K
            refine norm_ (a' := ?_) ?_ ?_
            rotate_left
            ·
             show Act.put _ (some 48) _ = _
             simp only [Act.put, e1_, e2_, e3_, i64_w, i32_w]
             rfl
            refine pure_ (i := 15) (N := some 49) (v := ?_) (a' := ?_) qm43 rfl rfl (any_of HT_.out (by kernel_rfl)) (fun _ _ _ h => h) (Or.inl ⟨by rfl, ?_⟩) ?_ ?_
            rotate_left
            ·
             intro w'
             go_simp
             with_reducible rfl
            rotate_left
            ·
             simp only [Act.put, e1_, e2_, e3_, i64_w, i32_w]
             rfl
            refine pure_ (i := 16) (N := some 50) (v := ?_) (a' := ?_) qm44 rfl rfl (any_of HT_.out (by kernel_rfl)) (fun _ _ _ h => h) (Or.inl ⟨by rfl, ?_⟩) ?_ ?_
            rotate_left
            ·
             intro w'
             go_simp
             with_reducible rfl
            rotate_left
            ·
             simp only [Act.put, e1_, e2_, e3_, i64_w, i32_w]
             rfl
            refine pure_ (i := 18) (N := some 52) (v := ?_) (a' := ?_) qm45 rfl rfl (any_of HT_.out (by kernel_rfl)) (fun _ _ _ h => h) (Or.inl ⟨by rfl, ?_⟩) ?_ ?_
            rotate_left
            ·
             intro w'
             go_simp
             with_reducible rfl
            rotate_left
            ·
             simp only [Act.put, e1_, e2_, e3_, i64_w, i32_w]
             rfl
            refine pure_ (i := 19) (N := some 53) (v := ?_) (a' := ?_) qm46 rfl rfl (any_of HT_.out (by kernel_rfl)) (fun _ _ _ h => h) (Or.inl ⟨by rfl, ?_⟩) ?_ ?_
            rotate_left
            ·
             intro w'
             go_simp
             with_reducible rfl
            rotate_left
            ·
             simp only [Act.put, e1_, e2_, e3_, i64_w, i32_w]
             rfl
            refine pure_ (i := 20) (N := some 54) (v := ?_) (a' := ?_) qm47 rfl rfl (any_of HT_.out (by kernel_rfl)) (fun _ _ _ h => h) (Or.inl ⟨by rfl, ?_⟩) ?_ ?_
            rotate_left
            ·
             intro w'
             go_simp
             with_reducible rfl
            rotate_left
            ·
             simp only [Act.put, e1_, e2_, e3_, i64_w, i32_w]
             rfl
            refine take_ (i := 17) (N := some 51) (v := ?_) (a' := ?_) qm48 rfl rfl (take_ofW HT_.out HW_.out (by kernel_rfl)) (fun _ _ _ h => h) (Or.inl ⟨by rfl, ?_⟩) hHeld ?_ ?_
            rotate_left
            ·
             rintro w' ⟨s0, s1, s2, s3, s4, s5, s6⟩
             go_simp
             with_reducible rfl
            rotate_left
            ·
             simp only [Act.put, e1_, e2_, e3_, i64_w, i32_w]
             rfl
            refine one_ (i := 21) (N := some 55) qm49 rfl rfl (one_of HT_.out (by kernel_rfl)) (by decide) (fun K hK => ?_)
            refine goes_ Try.func33 (by kernel_rfl) rfl #[.agg #[.int .i64 t185, .int .i64 t186, .int .u32 t187, .int .i64 t188, .int .i64 t189, .int .i64 t190, .int .i64 t191], .int .u32 (Go.bits .or .u32 a1 a2)] (by rfl) rfl rfl (by (try simp only [List.map_toArray, List.map_cons, List.map_nil]); first|done|rfl|(simp only [List.length_drop, List.length_take]; rfl)) ?_
            with_reducible refine (grid_Config_IsSecond.calls kj7 t185 t186 t187 t188 t189 t190 t191 (Go.bits .or .u32 a1 a2) true _ A40.out).mono ?_
            rintro e w55 ⟨rfl, hb⟩
            refine ⟨_, rfl, ?_⟩
            have n0_:=K_ (blk_below (g := gb176) (o := .cells #[.int .i64 t178, .int .i64 t179, .int .u32 t180, .int .i64 t181, .int .i64 t182, .int .i64 t183, .int .i64 t184] 52 (0, 0)) (by (with_reducible repeat (first|refine bN_ ?_ _|refine bD_ ?_|refine bA_ ?_ _)); exact BK176.out) hb)
            have n1_:=K_ (blk_below (g := gb192) (o := .cells #[.int .i64 t185, .int .i64 t186, .int .u32 t187, .int .i64 t188, .int .i64 t189, .int .i64 t190, .int .i64 t191] 56 (0, 0)) (by (with_reducible repeat (first|refine bN_ ?_ _|refine bD_ ?_|refine bA_ ?_ _)); exact BK192.out) hb)
            have n2_:=K_ (below_step (by repeat (first|(with_reducible first|exact HB.out|apply pA_|apply pN_|apply pD_|refine bS_ ?_ GE176.out|refine bS_ ?_ GE192.out)|exact HB.out)) hb)
            clear BK176
            clear BK192
            clear HB
            have BK176:=n0_
            have BK192:=n1_
            have HB:=n2_
            clear n0_ n1_ n2_
            (try clear hb)
            (try clear hb2)
            (try clear hk)
            (try clear hi)
            refine hK.out _ _ ⟨(blk_cell BK192.out 0).trans rfl, (blk_cell BK192.out 1).trans rfl, (blk_cell BK192.out 2).trans rfl, (blk_cell BK192.out 3).trans rfl, (blk_cell BK192.out 4).trans rfl, (blk_cell BK192.out 5).trans rfl, (blk_cell BK192.out 6).trans rfl⟩ (fun hHeld => ?_)
            clear hK K
            refine norm_ (a' := ?_) ?_ ?_
            rotate_left
            ·
             show Act.put _ (some 55) _ = _
             simp only [Act.put, e1_, e2_, e3_, i64_w, i32_w]
             rfl
            refine pure_ (i := 22) (N := some 56) (v := ?_) (a' := ?_) qm50 rfl rfl (any_of HT_.out (by kernel_rfl)) (fun _ _ _ h => h) (Or.inl ⟨by rfl, ?_⟩) ?_ ?_
            rotate_left
            ·
             intro w'
             go_simp
             with_reducible rfl
            rotate_left
            ·
             simp only [Act.put, e1_, e2_, e3_, i64_w, i32_w]
             rfl
            refine pure_ (i := 23) (N := some 57) (v := ?_) (a' := ?_) qm51 rfl rfl (any_of HT_.out (by kernel_rfl)) (fun _ _ _ h => h) (Or.inl ⟨by rfl, ?_⟩) ?_ ?_
            rotate_left
            ·
             intro w'
             go_simp
             with_reducible rfl
            rotate_left
            ·
             simp only [Act.put, e1_, e2_, e3_, i64_w, i32_w]
             rfl
            refine pure_ (i := 24) (N := some 58) (v := ?_) (a' := ?_) qm52 rfl rfl (any_of HT_.out (by kernel_rfl)) (fun _ _ _ h => h) (Or.inl ⟨by rfl, ?_⟩) ?_ ?_
            rotate_left
            ·
             intro w'
             go_simp
             with_reducible rfl
            rotate_left
            ·
             simp only [Act.put, e1_, e2_, e3_, i64_w, i32_w]
             rfl
            refine take_ (i := 25) (N := some 59) (v := ?_) (a' := ?_) qm53 rfl rfl (take_ofW HT_.out HW_.out (by kernel_rfl)) (fun _ _ _ h => h) (Or.inl ⟨by rfl, ?_⟩) hHeld ?_ ?_
            rotate_left
            ·
             rintro w' ⟨s0, s1, s2, s3, s4, s5, s6⟩
             go_simp
             with_reducible rfl
            rotate_left
            ·
             simp only [Act.put, e1_, e2_, e3_, i64_w, i32_w]
             rfl
            refine take_ (i := 26) (N := some 60) (v := ?_) (a' := ?_) qm54 rfl rfl (take_ofW HT_.out HW_.out (by kernel_rfl)) (fun _ _ _ h => h) (Or.inl ⟨by rfl, ?_⟩) hHeld ?_ ?_
            rotate_left
            ·
             rintro w' ⟨s0, s1, s2, s3, s4, s5, s6⟩
             go_simp
             with_reducible rfl
            rotate_left
            ·
             simp only [Act.put, e1_, e2_, e3_, i64_w, i32_w]
             rfl
            refine one_ (i := 27) (N := some 61) qm55 rfl rfl (one_of HT_.out (by kernel_rfl)) (by decide) (fun K hK => ?_)
            refine goes_ Try.func34 (by kernel_rfl) rfl #[.agg #[.int .i64 t185, .int .i64 t186, .int .u32 t187, .int .i64 t188, .int .i64 t189, .int .i64 t190, .int .i64 t191]] (by rfl) rfl rfl (by (try simp only [List.map_toArray, List.map_cons, List.map_nil]); first|done|rfl|(simp only [List.length_drop, List.length_take]; rfl)) ?_
            with_reducible refine (grid_Config_All.calls kj7 t185 t186 t187 t188 t189 t190 t191 t201 _ A42.out).mono ?_
            rintro e w56 ⟨rfl, hb⟩
            refine ⟨_, rfl, ?_⟩
            have n0_:=K_ (blk_below (g := gb176) (o := .cells #[.int .i64 t178, .int .i64 t179, .int .u32 t180, .int .i64 t181, .int .i64 t182, .int .i64 t183, .int .i64 t184] 52 (0, 0)) (by (with_reducible repeat (first|refine bN_ ?_ _|refine bD_ ?_|refine bA_ ?_ _)); exact BK176.out) hb)
            have n1_:=K_ (blk_below (g := gb192) (o := .cells #[.int .i64 t185, .int .i64 t186, .int .u32 t187, .int .i64 t188, .int .i64 t189, .int .i64 t190, .int .i64 t191] 56 (0, 0)) (by (with_reducible repeat (first|refine bN_ ?_ _|refine bD_ ?_|refine bA_ ?_ _)); exact BK192.out) hb)
            have n2_:=K_ (below_step (by repeat (first|(with_reducible first|exact HB.out|apply pA_|apply pN_|apply pD_|refine bS_ ?_ GE176.out|refine bS_ ?_ GE192.out)|exact HB.out)) hb)
            clear BK176
            clear BK192
            clear HB
            have BK176:=n0_
            have BK192:=n1_
            have HB:=n2_
            clear n0_ n1_ n2_
            (try clear hb)
            (try clear hb2)
            (try clear hk)
            (try clear hi)
            refine hK.out _ _ ⟨(blk_cell BK192.out 0).trans rfl, (blk_cell BK192.out 1).trans rfl, (blk_cell BK192.out 2).trans rfl, (blk_cell BK192.out 3).trans rfl, (blk_cell BK192.out 4).trans rfl, (blk_cell BK192.out 5).trans rfl, (blk_cell BK192.out 6).trans rfl⟩ (fun hHeld => ?_)
            clear hK K
            refine norm_ (a' := ?_) ?_ ?_
            rotate_left
            ·
             show Act.put _ (some 61) _ = _
             simp only [Act.put, e1_, e2_, e3_, i64_w, i32_w]
             rfl
            refine one_ (i := 28) (N := some 62) qm56 rfl rfl (one_of HT_.out (by kernel_rfl)) (by decide) (fun K hK => ?_)
            refine goes_ Try.func31 (by kernel_rfl) rfl #[.agg #[.int .i64 t185, .int .i64 t186, .int .u32 t187, .int .i64 t188, .int .i64 t189, .int .i64 t190, .int .i64 t191], .int .u32 t201] (by rfl) rfl rfl (by (try simp only [List.map_toArray, List.map_cons, List.map_nil]); first|done|rfl|(simp only [List.length_drop, List.length_take]; rfl)) ?_
            with_reducible refine (grid_Config_IsFirst.calls kj7 t185 t186 t187 t188 t189 t190 t191 t201 true _ A43.out).mono ?_
            rintro e w57 ⟨rfl, hb⟩
            refine ⟨_, rfl, ?_⟩
            have n0_:=K_ (blk_below (g := gb176) (o := .cells #[.int .i64 t178, .int .i64 t179, .int .u32 t180, .int .i64 t181, .int .i64 t182, .int .i64 t183, .int .i64 t184] 52 (0, 0)) (by (with_reducible repeat (first|refine bN_ ?_ _|refine bD_ ?_|refine bA_ ?_ _)); exact BK176.out) hb)
            have n1_:=K_ (blk_below (g := gb192) (o := .cells #[.int .i64 t185, .int .i64 t186, .int .u32 t187, .int .i64 t188, .int .i64 t189, .int .i64 t190, .int .i64 t191] 56 (0, 0)) (by (with_reducible repeat (first|refine bN_ ?_ _|refine bD_ ?_|refine bA_ ?_ _)); exact BK192.out) hb)
            have n2_:=K_ (below_step (by repeat (first|(with_reducible first|exact HB.out|apply pA_|apply pN_|apply pD_|refine bS_ ?_ GE176.out|refine bS_ ?_ GE192.out)|exact HB.out)) hb)
            clear BK176
            clear BK192
            clear HB
            have BK176:=n0_
            have BK192:=n1_
            have HB:=n2_
            clear n0_ n1_ n2_
            (try clear hb)
            (try clear hb2)
            (try clear hk)
            (try clear hi)
            refine hK.out _ _ ⟨(blk_cell BK192.out 0).trans rfl, (blk_cell BK192.out 1).trans rfl, (blk_cell BK192.out 2).trans rfl, (blk_cell BK192.out 3).trans rfl, (blk_cell BK192.out 4).trans rfl, (blk_cell BK192.out 5).trans rfl, (blk_cell BK192.out 6).trans rfl⟩ (fun hHeld => ?_)
            clear hK K
            refine norm_ (a' := ?_) ?_ ?_
            rotate_left
            ·
             show Act.put _ (some 62) _ = _
             simp only [Act.put, e1_, e2_, e3_, i64_w, i32_w]
             rfl
            refine pure_ (i := 29) (N := some 63) (v := ?_) (a' := ?_) qm57 rfl rfl (any_of HT_.out (by kernel_rfl)) (fun _ _ _ h => h) (Or.inl ⟨by rfl, ?_⟩) ?_ ?_
            rotate_left
            ·
             intro w'
             go_simp
             with_reducible rfl
            rotate_left
            ·
             simp only [Act.put, e1_, e2_, e3_, i64_w, i32_w]
             rfl
            refine pure_ (i := 30) (N := some 64) (v := ?_) (a' := ?_) qm58 rfl rfl (any_of HT_.out (by kernel_rfl)) (fun _ _ _ h => h) (Or.inl ⟨by rfl, ?_⟩) ?_ ?_
            rotate_left
            ·
             intro w'
             go_simp
             with_reducible rfl
            rotate_left
            ·
             simp only [Act.put, e1_, e2_, e3_, i64_w, i32_w]
             rfl
            refine take_ (i := 31) (N := some 65) (v := ?_) (a' := ?_) qm59 rfl rfl (take_ofW HT_.out HW_.out (by kernel_rfl)) (fun _ _ _ h => h) (Or.inl ⟨by rfl, ?_⟩) hHeld ?_ ?_
            rotate_left
            ·
             rintro w' ⟨s0, s1, s2, s3, s4, s5, s6⟩
             go_simp
             with_reducible rfl
            rotate_left
            ·
             simp only [Act.put, e1_, e2_, e3_, i64_w, i32_w]
             rfl
            refine take_ (i := 32) (N := some 66) (v := ?_) (a' := ?_) qm60 rfl rfl (take_ofW HT_.out HW_.out (by kernel_rfl)) (fun _ _ _ h => h) (Or.inl ⟨by rfl, ?_⟩) hHeld ?_ ?_
            rotate_left
            ·
             rintro w' ⟨s0, s1, s2, s3, s4, s5, s6⟩
             go_simp
             with_reducible rfl
            rotate_left
            ·
             simp only [Act.put, e1_, e2_, e3_, i64_w, i32_w]
             rfl
            refine one_ (i := 33) (N := some 67) qm61 rfl rfl (one_of HT_.out (by kernel_rfl)) (by decide) (fun K hK => ?_)
            refine goes_ Try.func34 (by kernel_rfl) rfl #[.agg #[.int .i64 t185, .int .i64 t186, .int .u32 t187, .int .i64 t188, .int .i64 t189, .int .i64 t190, .int .i64 t191]] (by rfl) rfl rfl (by (try simp only [List.map_toArray, List.map_cons, List.map_nil]); first|done|rfl|(simp only [List.length_drop, List.length_take]; rfl)) ?_
            with_reducible refine (grid_Config_All.calls kj7 t185 t186 t187 t188 t189 t190 t191 t203 _ A45.out).mono ?_
            rintro e w58 ⟨rfl, hb⟩
            refine ⟨_, rfl, ?_⟩
            have n0_:=K_ (blk_below (g := gb176) (o := .cells #[.int .i64 t178, .int .i64 t179, .int .u32 t180, .int .i64 t181, .int .i64 t182, .int .i64 t183, .int .i64 t184] 52 (0, 0)) (by (with_reducible repeat (first|refine bN_ ?_ _|refine bD_ ?_|refine bA_ ?_ _)); exact BK176.out) hb)
            have n1_:=K_ (blk_below (g := gb192) (o := .cells #[.int .i64 t185, .int .i64 t186, .int .u32 t187, .int .i64 t188, .int .i64 t189, .int .i64 t190, .int .i64 t191] 56 (0, 0)) (by (with_reducible repeat (first|refine bN_ ?_ _|refine bD_ ?_|refine bA_ ?_ _)); exact BK192.out) hb)
            have n2_:=K_ (below_step (by repeat (first|(with_reducible first|exact HB.out|apply pA_|apply pN_|apply pD_|refine bS_ ?_ GE176.out|refine bS_ ?_ GE192.out)|exact HB.out)) hb)
            clear BK176
            clear BK192
            clear HB
            have BK176:=n0_
            have BK192:=n1_
            have HB:=n2_
            clear n0_ n1_ n2_
            (try clear hb)
            (try clear hb2)
            (try clear hk)
            (try clear hi)
            refine hK.out _ _ ⟨(blk_cell BK192.out 0).trans rfl, (blk_cell BK192.out 1).trans rfl, (blk_cell BK192.out 2).trans rfl, (blk_cell BK192.out 3).trans rfl, (blk_cell BK192.out 4).trans rfl, (blk_cell BK192.out 5).trans rfl, (blk_cell BK192.out 6).trans rfl⟩ (fun hHeld => ?_)
            clear hK K
            refine norm_ (a' := ?_) ?_ ?_
            rotate_left
            ·
             show Act.put _ (some 67) _ = _
             simp only [Act.put, e1_, e2_, e3_, i64_w, i32_w]
             rfl
            refine one_ (i := 34) (N := some 68) qm62 rfl rfl (one_of HT_.out (by kernel_rfl)) (by decide) (fun K hK => ?_)
            refine goes_ Try.func33 (by kernel_rfl) rfl #[.agg #[.int .i64 t185, .int .i64 t186, .int .u32 t187, .int .i64 t188, .int .i64 t189, .int .i64 t190, .int .i64 t191], .int .u32 t203] (by rfl) rfl rfl (by (try simp only [List.map_toArray, List.map_cons, List.map_nil]); first|done|rfl|(simp only [List.length_drop, List.length_take]; rfl)) ?_
            with_reducible refine (grid_Config_IsSecond.calls kj7 t185 t186 t187 t188 t189 t190 t191 t203 true _ A46.out).mono ?_
            rintro e w59 ⟨rfl, hb⟩
            refine ⟨_, rfl, ?_⟩
            have n0_:=K_ (blk_below (g := gb176) (o := .cells #[.int .i64 t178, .int .i64 t179, .int .u32 t180, .int .i64 t181, .int .i64 t182, .int .i64 t183, .int .i64 t184] 52 (0, 0)) (by (with_reducible repeat (first|refine bN_ ?_ _|refine bD_ ?_|refine bA_ ?_ _)); exact BK176.out) hb)
            have n1_:=K_ (blk_below (g := gb192) (o := .cells #[.int .i64 t185, .int .i64 t186, .int .u32 t187, .int .i64 t188, .int .i64 t189, .int .i64 t190, .int .i64 t191] 56 (0, 0)) (by (with_reducible repeat (first|refine bN_ ?_ _|refine bD_ ?_|refine bA_ ?_ _)); exact BK192.out) hb)
            have n2_:=K_ (below_step (by repeat (first|(with_reducible first|exact HB.out|apply pA_|apply pN_|apply pD_|refine bS_ ?_ GE176.out|refine bS_ ?_ GE192.out)|exact HB.out)) hb)
            clear BK176
            clear BK192
            clear HB
            have BK176:=n0_
            have BK192:=n1_
            have HB:=n2_
            clear n0_ n1_ n2_
            (try clear hb)
            (try clear hb2)
            (try clear hk)
            (try clear hi)
            refine hK.out _ _ ⟨(blk_cell BK192.out 0).trans rfl, (blk_cell BK192.out 1).trans rfl, (blk_cell BK192.out 2).trans rfl, (blk_cell BK192.out 3).trans rfl, (blk_cell BK192.out 4).trans rfl, (blk_cell BK192.out 5).trans rfl, (blk_cell BK192.out 6).trans rfl⟩ (fun hHeld => ?_)
            clear hK K
            refine norm_ (a' := ?_) ?_ ?_
            rotate_left
            ·
             show Act.put _ (some 68) _ = _
             simp only [Act.put, e1_, e2_, e3_, i64_w, i32_w]
             rfl
            refine pure_ (i := 35) (N := some 69) (v := ?_) (a' := ?_) qm63 rfl rfl (any_of HT_.out (by kernel_rfl)) (fun _ _ _ h => h) (Or.inl ⟨by rfl, ?_⟩) ?_ ?_
            rotate_left
            ·
             intro w'
             go_simp
             with_reducible rfl
            rotate_left
            ·
             simp only [Act.put, e1_, e2_, e3_, i64_w, i32_w]
             rfl
            refine pure_ (i := 36) (N := some 70) (v := ?_) (a' := ?_) qm64 rfl rfl (any_of HT_.out (by kernel_rfl)) (fun _ _ _ h => h) (Or.inl ⟨by rfl, ?_⟩) ?_ ?_
            rotate_left
            ·
             intro w'
             go_simp
             with_reducible rfl
            rotate_left
            ·
             simp only [Act.put, e1_, e2_, e3_, i64_w, i32_w]
             rfl
            refine take_ (i := 37) (N := some 71) (v := ?_) (a' := ?_) qm65 rfl rfl (take_ofW HT_.out HW_.out (by kernel_rfl)) (fun _ _ _ h => h) (Or.inl ⟨by rfl, ?_⟩) hHeld ?_ ?_
            rotate_left
            ·
             rintro w' ⟨s0, s1, s2, s3, s4, s5, s6⟩
             go_simp
             with_reducible rfl
            rotate_left
            ·
             simp only [Act.put, e1_, e2_, e3_, i64_w, i32_w]
             rfl
            refine one_ (i := 38) (N := some 72) qm66 rfl rfl (one_of HT_.out (by kernel_rfl)) (by decide) (fun K hK => ?_)
            refine goes_ Try.func31 (by kernel_rfl) rfl #[.agg #[.int .i64 t185, .int .i64 t186, .int .u32 t187, .int .i64 t188, .int .i64 t189, .int .i64 t190, .int .i64 t191], .int .u32 0] (by rfl) rfl rfl (by (try simp only [List.map_toArray, List.map_cons, List.map_nil]); first|done|rfl|(simp only [List.length_drop, List.length_take]; rfl)) ?_
            with_reducible refine (grid_Config_IsFirst.calls kj7 t185 t186 t187 t188 t189 t190 t191 0 false _ A48.out).mono ?_
            rintro e w60 ⟨rfl, hb⟩
            refine ⟨_, rfl, ?_⟩
            have n0_:=K_ (blk_below (g := gb176) (o := .cells #[.int .i64 t178, .int .i64 t179, .int .u32 t180, .int .i64 t181, .int .i64 t182, .int .i64 t183, .int .i64 t184] 52 (0, 0)) (by (with_reducible repeat (first|refine bN_ ?_ _|refine bD_ ?_|refine bA_ ?_ _)); exact BK176.out) hb)
            have n1_:=K_ (blk_below (g := gb192) (o := .cells #[.int .i64 t185, .int .i64 t186, .int .u32 t187, .int .i64 t188, .int .i64 t189, .int .i64 t190, .int .i64 t191] 56 (0, 0)) (by (with_reducible repeat (first|refine bN_ ?_ _|refine bD_ ?_|refine bA_ ?_ _)); exact BK192.out) hb)
            have n2_:=K_ (below_step (by repeat (first|(with_reducible first|exact HB.out|apply pA_|apply pN_|apply pD_|refine bS_ ?_ GE176.out|refine bS_ ?_ GE192.out)|exact HB.out)) hb)
            clear BK176
            clear BK192
            clear HB
            have BK176:=n0_
            have BK192:=n1_
            have HB:=n2_
            clear n0_ n1_ n2_
            (try clear hb)
            (try clear hb2)
            (try clear hk)
            (try clear hi)
            refine hK.out _ _ ⟨(blk_cell BK192.out 0).trans rfl, (blk_cell BK192.out 1).trans rfl, (blk_cell BK192.out 2).trans rfl, (blk_cell BK192.out 3).trans rfl, (blk_cell BK192.out 4).trans rfl, (blk_cell BK192.out 5).trans rfl, (blk_cell BK192.out 6).trans rfl⟩ (fun hHeld => ?_)
            clear hK K
            refine norm_ (a' := ?_) ?_ ?_
            rotate_left
            ·
             show Act.put _ (some 72) _ = _
             simp only [Act.put, e1_, e2_, e3_, i64_w, i32_w]
             rfl
            refine pure_ (i := 39) (N := some 73) (v := ?_) (a' := ?_) qm67 rfl rfl (any_of HT_.out (by kernel_rfl)) (fun _ _ _ h => h) (Or.inl ⟨by rfl, ?_⟩) ?_ ?_
            rotate_left
            ·
             intro w'
             go_simp
             with_reducible rfl
            rotate_left
            ·
             simp only [Act.put, e1_, e2_, e3_, i64_w, i32_w]
             rfl
            refine pure_ (i := 40) (N := some 74) (v := ?_) (a' := ?_) qm68 rfl rfl (any_of HT_.out (by kernel_rfl)) (fun _ _ _ h => h) (Or.inl ⟨by rfl, ?_⟩) ?_ ?_
            rotate_left
            ·
             intro w'
             go_simp
             with_reducible rfl
            rotate_left
            ·
             simp only [Act.put, e1_, e2_, e3_, i64_w, i32_w]
             rfl
            refine pure_ (i := 41) (N := some 75) (v := ?_) (a' := ?_) qm69 rfl rfl (any_of HT_.out (by kernel_rfl)) (fun _ _ _ h => h) (Or.inl ⟨by rfl, ?_⟩) ?_ ?_
            rotate_left
            ·
             intro w'
             go_simp
             with_reducible rfl
            rotate_left
            ·
             simp only [Act.put, e1_, e2_, e3_, i64_w, i32_w]
             rfl
            refine take_ (i := 42) (N := some 76) (v := ?_) (a' := ?_) qm70 rfl rfl (take_ofW HT_.out HW_.out (by kernel_rfl)) (fun _ _ _ h => h) (Or.inl ⟨by rfl, ?_⟩) hHeld ?_ ?_
            rotate_left
            ·
             rintro w' ⟨s0, s1, s2, s3, s4, s5, s6⟩
             go_simp
             with_reducible rfl
            rotate_left
            ·
             simp only [Act.put, e1_, e2_, e3_, i64_w, i32_w]
             rfl
            refine one_ (i := 43) (N := some 77) qm71 rfl rfl (one_of HT_.out (by kernel_rfl)) (by decide) (fun K hK => ?_)
            refine goes_ Try.func33 (by kernel_rfl) rfl #[.agg #[.int .i64 t185, .int .i64 t186, .int .u32 t187, .int .i64 t188, .int .i64 t189, .int .i64 t190, .int .i64 t191], .int .u32 0] (by rfl) rfl rfl (by (try simp only [List.map_toArray, List.map_cons, List.map_nil]); first|done|rfl|(simp only [List.length_drop, List.length_take]; rfl)) ?_
            with_reducible refine (grid_Config_IsSecond.calls kj7 t185 t186 t187 t188 t189 t190 t191 0 t206 _ A50.out).mono ?_
            rintro e w61 ⟨rfl, hb⟩
            refine ⟨_, rfl, ?_⟩
            have n0_:=K_ (blk_below (g := gb176) (o := .cells #[.int .i64 t178, .int .i64 t179, .int .u32 t180, .int .i64 t181, .int .i64 t182, .int .i64 t183, .int .i64 t184] 52 (0, 0)) (by (with_reducible repeat (first|refine bN_ ?_ _|refine bD_ ?_|refine bA_ ?_ _)); exact BK176.out) hb)
            have n1_:=K_ (blk_below (g := gb192) (o := .cells #[.int .i64 t185, .int .i64 t186, .int .u32 t187, .int .i64 t188, .int .i64 t189, .int .i64 t190, .int .i64 t191] 56 (0, 0)) (by (with_reducible repeat (first|refine bN_ ?_ _|refine bD_ ?_|refine bA_ ?_ _)); exact BK192.out) hb)
            have n2_:=K_ (below_step (by repeat (first|(with_reducible first|exact HB.out|apply pA_|apply pN_|apply pD_|refine bS_ ?_ GE176.out|refine bS_ ?_ GE192.out)|exact HB.out)) hb)
            clear BK176
            clear BK192
            clear HB
            have BK176:=n0_
            have BK192:=n1_
            have HB:=n2_
            clear n0_ n1_ n2_
            (try clear hb)
            (try clear hb2)
            (try clear hk)
            (try clear hi)
            refine hK.out _ _ ⟨(blk_cell BK192.out 0).trans rfl, (blk_cell BK192.out 1).trans rfl, (blk_cell BK192.out 2).trans rfl, (blk_cell BK192.out 3).trans rfl, (blk_cell BK192.out 4).trans rfl, (blk_cell BK192.out 5).trans rfl, (blk_cell BK192.out 6).trans rfl⟩ (fun hHeld => ?_)
            clear hK K
            refine norm_ (a' := ?_) ?_ ?_
            rotate_left
            ·
             show Act.put _ (some 77) _ = _
             simp only [Act.put, e1_, e2_, e3_, i64_w, i32_w]
             rfl
            refine pure_ (i := 44) (N := some 78) (v := ?_) (a' := ?_) qm72 rfl rfl (any_of HT_.out (by kernel_rfl)) (fun _ _ _ h => h) (Or.inl ⟨by rfl, ?_⟩) ?_ ?_
            rotate_left
            ·
             intro w'
             go_simp
             with_reducible rfl
            rotate_left
            ·
             simp only [Act.put, e1_, e2_, e3_, i64_w, i32_w]
             rfl
            refine pure_ (i := 45) (N := some 79) (v := ?_) (a' := ?_) qm73 rfl rfl (any_of HT_.out (by kernel_rfl)) (fun _ _ _ h => h) (Or.inl ⟨by rfl, ?_⟩) ?_ ?_
            rotate_left
            ·
             intro w'
             go_simp
             with_reducible rfl
            rotate_left
            ·
             simp only [Act.put, e1_, e2_, e3_, i64_w, i32_w]
             rfl
            refine pure_ (i := 46) (N := some 6) (v := ?_) (a' := ?_) qm74 rfl rfl (any_of HT_.out (by kernel_rfl)) (fun _ _ _ h => h) (Or.inl ⟨by rfl, ?_⟩) ?_ ?_
            rotate_left
            ·
             intro w'
             go_simp
             with_reducible rfl
            rotate_left
            ·
             simp only [Act.put, e1_, e2_, e3_, i64_w, i32_w]
             rfl
            refine done_ (done_of HT_.out (by kernel_rfl)) ?_
            try go_wp2
            go_ret
            exact ⟨by first|rfl|(simp [errW_none, errW_some] <;> rfl)|(simp [*, errW_none, errW_some] <;> rfl), by repeat (first|(with_reducible first|exact HB.out|apply pA_|apply pN_|apply pD_|refine bS_ ?_ GE176.out|refine bS_ ?_ GE192.out)|exact HB.out)⟩
          ·
           replace c47 := Bool.eq_false_iff.mpr c47
           subst c47
           have H1 : (some false) = some r := by rw [if_neg (show ¬ (false = true) by decide)] at H; exact H
           clear H
           have H:=H1
           clear H1
           obtain rfl := Option.some.inj H
           exact absurd hr_ (by decide)
         ·
          replace c44 := Bool.eq_false_iff.mpr c44
          subst c44
          have H1 : (some false) = some r := by rw [if_neg (show ¬ (false = true) by decide)] at H; exact H
          clear H
          have H:=H1
          clear H1
          obtain rfl := Option.some.inj H
          exact absurd hr_ (by decide)
        ·
         replace c41 := Bool.eq_false_iff.mpr c41
         subst c41
         have H1 : (some false) = some r := by rw [if_neg (show ¬ (false = true) by decide)] at H; exact H
         clear H
         have H:=H1
         clear H1
         obtain rfl := Option.some.inj H
         exact absurd hr_ (by decide)
       ·
        replace c39 := Bool.eq_false_iff.mpr c39
        subst c39
        have H1 : ((grid_Config_All.f kj7 t185 t186 t187 t188 t189 t190 t191).bind fun t207 => ((grid_Config_IsFirst.f kj7 t185 t186 t187 t188 t189 t190 t191 t207).bind fun t208 => (if t208 = true then ((grid_Config_All.f kj7 t185 t186 t187 t188 t189 t190 t191).bind fun t209 => ((grid_Config_IsSecond.f kj7 t185 t186 t187 t188 t189 t190 t191 t209).bind fun t210 => (if t210 = true then ((grid_Config_IsFirst.f kj7 t185 t186 t187 t188 t189 t190 t191 0).bind fun t211 => (if t211 = true then (some false) else ((grid_Config_IsSecond.f kj7 t185 t186 t187 t188 t189 t190 t191 0).bind fun t212 => (some (!t212))))) else (some false)))) else (some false)))) = some r := by rw [if_neg (show ¬ (false = true) by decide)] at H; exact H
        clear H
        have H:=H1
        clear H1
        replace H := Option.bind_eq_some_iff.mp H
        obtain ⟨t207, A620, H⟩ := H
        replace H : ((grid_Config_IsFirst.f kj7 t185 t186 t187 t188 t189 t190 t191 t207).bind fun t208 => (if t208 = true then ((grid_Config_All.f kj7 t185 t186 t187 t188 t189 t190 t191).bind fun t209 => ((grid_Config_IsSecond.f kj7 t185 t186 t187 t188 t189 t190 t191 t209).bind fun t210 => (if t210 = true then ((grid_Config_IsFirst.f kj7 t185 t186 t187 t188 t189 t190 t191 0).bind fun t211 => (if t211 = true then (some false) else ((grid_Config_IsSecond.f kj7 t185 t186 t187 t188 t189 t190 t191 0).bind fun t212 => (some (!t212))))) else (some false)))) else (some false))) = some r := H
        have A62:=K_ A620
        clear A620
        replace H := Option.bind_eq_some_iff.mp H
        obtain ⟨t208, A630, H⟩ := H
        replace H : (if t208 = true then ((grid_Config_All.f kj7 t185 t186 t187 t188 t189 t190 t191).bind fun t209 => ((grid_Config_IsSecond.f kj7 t185 t186 t187 t188 t189 t190 t191 t209).bind fun t210 => (if t210 = true then ((grid_Config_IsFirst.f kj7 t185 t186 t187 t188 t189 t190 t191 0).bind fun t211 => (if t211 = true then (some false) else ((grid_Config_IsSecond.f kj7 t185 t186 t187 t188 t189 t190 t191 0).bind fun t212 => (some (!t212))))) else (some false)))) else (some false)) = some r := H
        have A63:=K_ A630
        clear A630
        by_cases c64 : t208 = true
        ·
         subst c64
         have H1 : ((grid_Config_All.f kj7 t185 t186 t187 t188 t189 t190 t191).bind fun t209 => ((grid_Config_IsSecond.f kj7 t185 t186 t187 t188 t189 t190 t191 t209).bind fun t210 => (if t210 = true then ((grid_Config_IsFirst.f kj7 t185 t186 t187 t188 t189 t190 t191 0).bind fun t211 => (if t211 = true then (some false) else ((grid_Config_IsSecond.f kj7 t185 t186 t187 t188 t189 t190 t191 0).bind fun t212 => (some (!t212))))) else (some false)))) = some r := by rw [if_pos rfl] at H; exact H
         clear H
         have H:=H1
         clear H1
         replace H := Option.bind_eq_some_iff.mp H
         obtain ⟨t209, A650, H⟩ := H
         replace H : ((grid_Config_IsSecond.f kj7 t185 t186 t187 t188 t189 t190 t191 t209).bind fun t210 => (if t210 = true then ((grid_Config_IsFirst.f kj7 t185 t186 t187 t188 t189 t190 t191 0).bind fun t211 => (if t211 = true then (some false) else ((grid_Config_IsSecond.f kj7 t185 t186 t187 t188 t189 t190 t191 0).bind fun t212 => (some (!t212))))) else (some false))) = some r := H
         have A65:=K_ A650
         clear A650
         replace H := Option.bind_eq_some_iff.mp H
         obtain ⟨t210, A660, H⟩ := H
         replace H : (if t210 = true then ((grid_Config_IsFirst.f kj7 t185 t186 t187 t188 t189 t190 t191 0).bind fun t211 => (if t211 = true then (some false) else ((grid_Config_IsSecond.f kj7 t185 t186 t187 t188 t189 t190 t191 0).bind fun t212 => (some (!t212))))) else (some false)) = some r := H
         have A66:=K_ A660
         clear A660
         by_cases c67 : t210 = true
         ·
          subst c67
          have H1 : ((grid_Config_IsFirst.f kj7 t185 t186 t187 t188 t189 t190 t191 0).bind fun t211 => (if t211 = true then (some false) else ((grid_Config_IsSecond.f kj7 t185 t186 t187 t188 t189 t190 t191 0).bind fun t212 => (some (!t212))))) = some r := by rw [if_pos rfl] at H; exact H
          clear H
          have H:=H1
          clear H1
          replace H := Option.bind_eq_some_iff.mp H
          obtain ⟨t211, A680, H⟩ := H
          replace H : (if t211 = true then (some false) else ((grid_Config_IsSecond.f kj7 t185 t186 t187 t188 t189 t190 t191 0).bind fun t212 => (some (!t212)))) = some r := H
          have A68:=K_ A680
          clear A680
          by_cases c69 : t211 = true
          ·
           subst c69
           have H1 : (some false) = some r := by rw [if_pos rfl] at H; exact H
           clear H
           have H:=H1
           clear H1
           obtain rfl := Option.some.inj H
           exact absurd hr_ (by decide)
          ·
           replace c69 := Bool.eq_false_iff.mpr c69
           subst c69
           have H1 : ((grid_Config_IsSecond.f kj7 t185 t186 t187 t188 t189 t190 t191 0).bind fun t212 => (some (!t212))) = some r := by rw [if_neg (show ¬ (false = true) by decide)] at H; exact H
           clear H
           have H:=H1
           clear H1
           replace H := Option.bind_eq_some_iff.mp H
           obtain ⟨t212, A700, H⟩ := H
           replace H : (some (!t212)) = some r := H
           have A70:=K_ A700
           clear A700
           obtain rfl := Option.some.inj H
           clear hr_
           try go_wp2
           have n0_:=K_ (bD_ BK176.out)
           have n1_:=K_ (bD_ BK192.out)
           have n2_:=K_ (pD_ HB.out)
           clear BK176
           clear BK192
           clear HB
           have BK176:=n0_
           have BK192:=n1_
           have HB:=n2_
           clear n0_ n1_ n2_
           refine start_ (n := 47) (S := fun w' => w'.cell? ⟨gb192, 0, none⟩ = some (.int .i64 t185) ∧ w'.cell? ⟨gb192, 1, none⟩ = some (.int .i64 t186) ∧ w'.cell? ⟨gb192, 2, none⟩ = some (.int .u32 t187) ∧ w'.cell? ⟨gb192, 3, none⟩ = some (.int .i64 t188) ∧ w'.cell? ⟨gb192, 4, none⟩ = some (.int .i64 t189) ∧ w'.cell? ⟨gb192, 5, none⟩ = some (.int .i64 t190) ∧ w'.cell? ⟨gb192, 6, none⟩ = some (.int .i64 t191)) (ds := []) qm27 (by kernel_rfl) rfl rfl ⟨(blk_cell BK192.out 0).trans rfl, (blk_cell BK192.out 1).trans rfl, (blk_cell BK192.out 2).trans rfl, (blk_cell BK192.out 3).trans rfl, (blk_cell BK192.out 4).trans rfl, (blk_cell BK192.out 5).trans rfl, (blk_cell BK192.out 6).trans rfl⟩ (fun hHeld => ?_); refine with_tabW chatelainelaw07_GridQuorums.tab7 chatelainelaw07_GridQuorums.bits7 (fun HT_ HW_ => ?_)
           generalize wc.drew = w71 at BK176 BK192 HB hHeld ⊢
           refine pure_ (i := 1) (N := some 35) (v := ?_) (a' := ?_) qm28 rfl rfl (any_of HT_.out (by kernel_rfl)) (fun _ _ _ h => h) (Or.inl ⟨by rfl, ?_⟩) ?_ ?_
           rotate_left
           ·
            intro w'
            go_simp
            with_reducible rfl
           rotate_left
           ·
            simp only [Act.put, e1_, e2_, e3_, i64_w, i32_w]
            rfl
           refine take_ (i := 0) (N := some 34) (v := ?_) (a' := ?_) qm29 rfl rfl (take_ofW HT_.out HW_.out (by kernel_rfl)) (fun _ _ _ h => h) (Or.inl ⟨by rfl, ?_⟩) hHeld ?_ ?_
           rotate_left
           ·
            rintro w' ⟨s0, s1, s2, s3, s4, s5, s6⟩
            go_simp
            with_reducible rfl
           rotate_left
           ·
            simp only [Act.put, e1_, e2_, e3_, i64_w, i32_w]
            rfl
           refine one_ (i := 2) (N := some 36) qm30 rfl rfl (one_of HT_.out (by kernel_rfl)) (by decide) (fun K hK => ?_)
           refine goes_ Try.func31 (by kernel_rfl) rfl #[.agg #[.int .i64 t185, .int .i64 t186, .int .u32 t187, .int .i64 t188, .int .i64 t189, .int .i64 t190, .int .i64 t191], .int .u32 a1] (by rfl) rfl rfl (by (try simp only [List.map_toArray, List.map_cons, List.map_nil]); first|done|rfl|(simp only [List.length_drop, List.length_take]; rfl)) ?_
           with_reducible refine (grid_Config_IsFirst.calls kj7 t185 t186 t187 t188 t189 t190 t191 a1 true _ A34.out).mono ?_
           rintro e w72 ⟨rfl, hb⟩
           refine ⟨_, rfl, ?_⟩
           have n0_:=K_ (blk_below (g := gb176) (o := .cells #[.int .i64 t178, .int .i64 t179, .int .u32 t180, .int .i64 t181, .int .i64 t182, .int .i64 t183, .int .i64 t184] 52 (0, 0)) (by (with_reducible repeat (first|refine bN_ ?_ _|refine bD_ ?_|refine bA_ ?_ _)); exact BK176.out) hb)
           have n1_:=K_ (blk_below (g := gb192) (o := .cells #[.int .i64 t185, .int .i64 t186, .int .u32 t187, .int .i64 t188, .int .i64 t189, .int .i64 t190, .int .i64 t191] 56 (0, 0)) (by (with_reducible repeat (first|refine bN_ ?_ _|refine bD_ ?_|refine bA_ ?_ _)); exact BK192.out) hb)
           have n2_:=K_ (below_step (by repeat (first|(with_reducible first|exact HB.out|apply pA_|apply pN_|apply pD_|refine bS_ ?_ GE176.out|refine bS_ ?_ GE192.out)|exact HB.out)) hb)
           clear BK176
           clear BK192
           clear HB
           have BK176:=n0_
           have BK192:=n1_
           have HB:=n2_
           clear n0_ n1_ n2_
           (try clear hb)
           (try clear hb2)
           (try clear hk)
           (try clear hi)
           refine hK.out _ _ ⟨(blk_cell BK192.out 0).trans rfl, (blk_cell BK192.out 1).trans rfl, (blk_cell BK192.out 2).trans rfl, (blk_cell BK192.out 3).trans rfl, (blk_cell BK192.out 4).trans rfl, (blk_cell BK192.out 5).trans rfl, (blk_cell BK192.out 6).trans rfl⟩ (fun hHeld => ?_)
           clear hK K
           refine norm_ (a' := ?_) ?_ ?_
           rotate_left
           ·
            show Act.put _ (some 36) _ = _
            simp only [Act.put, e1_, e2_, e3_, i64_w, i32_w]
            rfl
           refine pure_ (i := 3) (N := some 37) (v := ?_) (a' := ?_) qm31 rfl rfl (any_of HT_.out (by kernel_rfl)) (fun _ _ _ h => h) (Or.inl ⟨by rfl, ?_⟩) ?_ ?_
           rotate_left
           ·
            intro w'
            go_simp
            with_reducible rfl
           rotate_left
           ·
            simp only [Act.put, e1_, e2_, e3_, i64_w, i32_w]
            rfl
           refine pure_ (i := 4) (N := some 38) (v := ?_) (a' := ?_) qm32 rfl rfl (any_of HT_.out (by kernel_rfl)) (fun _ _ _ h => h) (Or.inl ⟨by rfl, ?_⟩) ?_ ?_
           rotate_left
           ·
            intro w'
            go_simp
            with_reducible rfl
           rotate_left
           ·
            simp only [Act.put, e1_, e2_, e3_, i64_w, i32_w]
            rfl
           refine pure_ (i := 6) (N := some 40) (v := ?_) (a' := ?_) qm33 rfl rfl (any_of HT_.out (by kernel_rfl)) (fun _ _ _ h => h) (Or.inl ⟨by rfl, ?_⟩) ?_ ?_
           rotate_left
           ·
            intro w'
            go_simp
            with_reducible rfl
           rotate_left
           ·
            simp only [Act.put, e1_, e2_, e3_, i64_w, i32_w]
            rfl
           refine pure_ (i := 7) (N := some 41) (v := ?_) (a' := ?_) qm34 rfl rfl (any_of HT_.out (by kernel_rfl)) (fun _ _ _ h => h) (Or.inl ⟨by rfl, ?_⟩) ?_ ?_
           rotate_left
           ·
            intro w'
            go_simp
            with_reducible rfl
           rotate_left
           ·
            simp only [Act.put, e1_, e2_, e3_, i64_w, i32_w]
            rfl
           refine pure_ (i := 8) (N := some 42) (v := ?_) (a' := ?_) qm35 rfl rfl (any_of HT_.out (by kernel_rfl)) (fun _ _ _ h => h) (Or.inl ⟨by rfl, ?_⟩) ?_ ?_
           rotate_left
           ·
            intro w'
            go_simp
            with_reducible rfl
           rotate_left
           ·
            simp only [Act.put, e1_, e2_, e3_, i64_w, i32_w]
            rfl
           refine take_ (i := 5) (N := some 39) (v := ?_) (a' := ?_) qm36 rfl rfl (take_ofW HT_.out HW_.out (by kernel_rfl)) (fun _ _ _ h => h) (Or.inl ⟨by rfl, ?_⟩) hHeld ?_ ?_
           rotate_left
           ·
            rintro w' ⟨s0, s1, s2, s3, s4, s5, s6⟩
            go_simp
            with_reducible rfl
           rotate_left
           ·
            simp only [Act.put, e1_, e2_, e3_, i64_w, i32_w]
            rfl
           refine one_ (i := 9) (N := some 43) qm37 rfl rfl (one_of HT_.out (by kernel_rfl)) (by decide) (fun K hK => ?_)
           refine goes_ Try.func31 (by kernel_rfl) rfl #[.agg #[.int .i64 t185, .int .i64 t186, .int .u32 t187, .int .i64 t188, .int .i64 t189, .int .i64 t190, .int .i64 t191], .int .u32 (Go.bits .or .u32 a1 a2)] (by rfl) rfl rfl (by (try simp only [List.map_toArray, List.map_cons, List.map_nil]); first|done|rfl|(simp only [List.length_drop, List.length_take]; rfl)) ?_
           with_reducible refine (grid_Config_IsFirst.calls kj7 t185 t186 t187 t188 t189 t190 t191 (Go.bits .or .u32 a1 a2) true _ A36.out).mono ?_
           rintro e w73 ⟨rfl, hb⟩
           refine ⟨_, rfl, ?_⟩
           have n0_:=K_ (blk_below (g := gb176) (o := .cells #[.int .i64 t178, .int .i64 t179, .int .u32 t180, .int .i64 t181, .int .i64 t182, .int .i64 t183, .int .i64 t184] 52 (0, 0)) (by (with_reducible repeat (first|refine bN_ ?_ _|refine bD_ ?_|refine bA_ ?_ _)); exact BK176.out) hb)
           have n1_:=K_ (blk_below (g := gb192) (o := .cells #[.int .i64 t185, .int .i64 t186, .int .u32 t187, .int .i64 t188, .int .i64 t189, .int .i64 t190, .int .i64 t191] 56 (0, 0)) (by (with_reducible repeat (first|refine bN_ ?_ _|refine bD_ ?_|refine bA_ ?_ _)); exact BK192.out) hb)
           have n2_:=K_ (below_step (by repeat (first|(with_reducible first|exact HB.out|apply pA_|apply pN_|apply pD_|refine bS_ ?_ GE176.out|refine bS_ ?_ GE192.out)|exact HB.out)) hb)
           clear BK176
           clear BK192
           clear HB
           have BK176:=n0_
           have BK192:=n1_
           have HB:=n2_
           clear n0_ n1_ n2_
           (try clear hb)
           (try clear hb2)
           (try clear hk)
           (try clear hi)
           refine hK.out _ _ ⟨(blk_cell BK192.out 0).trans rfl, (blk_cell BK192.out 1).trans rfl, (blk_cell BK192.out 2).trans rfl, (blk_cell BK192.out 3).trans rfl, (blk_cell BK192.out 4).trans rfl, (blk_cell BK192.out 5).trans rfl, (blk_cell BK192.out 6).trans rfl⟩ (fun hHeld => ?_)
           clear hK K
           refine norm_ (a' := ?_) ?_ ?_
           rotate_left
           ·
            show Act.put _ (some 43) _ = _
            simp only [Act.put, e1_, e2_, e3_, i64_w, i32_w]
            rfl
           refine pure_ (i := 10) (N := some 44) (v := ?_) (a' := ?_) qm38 rfl rfl (any_of HT_.out (by kernel_rfl)) (fun _ _ _ h => h) (Or.inl ⟨by rfl, ?_⟩) ?_ ?_
           rotate_left
           ·
            intro w'
            go_simp
            with_reducible rfl
           rotate_left
           ·
            simp only [Act.put, e1_, e2_, e3_, i64_w, i32_w]
            rfl
           refine pure_ (i := 11) (N := some 45) (v := ?_) (a' := ?_) qm39 rfl rfl (any_of HT_.out (by kernel_rfl)) (fun _ _ _ h => h) (Or.inl ⟨by rfl, ?_⟩) ?_ ?_
           rotate_left
           ·
            intro w'
            go_simp
            with_reducible rfl
           rotate_left
           ·
            simp only [Act.put, e1_, e2_, e3_, i64_w, i32_w]
            rfl
           refine pure_ (i := 13) (N := some 47) (v := ?_) (a' := ?_) qm40 rfl rfl (any_of HT_.out (by kernel_rfl)) (fun _ _ _ h => h) (Or.inl ⟨by rfl, ?_⟩) ?_ ?_
           rotate_left
           ·
            intro w'
            go_simp
            with_reducible rfl
           rotate_left
           ·
            simp only [Act.put, e1_, e2_, e3_, i64_w, i32_w]
            rfl
           refine take_ (i := 12) (N := some 46) (v := ?_) (a' := ?_) qm41 rfl rfl (take_ofW HT_.out HW_.out (by kernel_rfl)) (fun _ _ _ h => h) (Or.inl ⟨by rfl, ?_⟩) hHeld ?_ ?_
           rotate_left
           ·
            rintro w' ⟨s0, s1, s2, s3, s4, s5, s6⟩
            go_simp
            with_reducible rfl
           rotate_left
           ·
            simp only [Act.put, e1_, e2_, e3_, i64_w, i32_w]
            rfl
           refine one_ (i := 14) (N := some 48) qm42 rfl rfl (one_of HT_.out (by kernel_rfl)) (by decide) (fun K hK => ?_)
           refine goes_ Try.func33 (by kernel_rfl) rfl #[.agg #[.int .i64 t185, .int .i64 t186, .int .u32 t187, .int .i64 t188, .int .i64 t189, .int .i64 t190, .int .i64 t191], .int .u32 a1] (by rfl) rfl rfl (by (try simp only [List.map_toArray, List.map_cons, List.map_nil]); first|done|rfl|(simp only [List.length_drop, List.length_take]; rfl)) ?_
           with_reducible refine (grid_Config_IsSecond.calls kj7 t185 t186 t187 t188 t189 t190 t191 a1 false _ A38.out).mono ?_
           rintro e w74 ⟨rfl, hb⟩
           refine ⟨_, rfl, ?_⟩
           have n0_:=K_ (blk_below (g := gb176) (o := .cells #[.int .i64 t178, .int .i64 t179, .int .u32 t180, .int .i64 t181, .int .i64 t182, .int .i64 t183, .int .i64 t184] 52 (0, 0)) (by (with_reducible repeat (first|refine bN_ ?_ _|refine bD_ ?_|refine bA_ ?_ _)); exact BK176.out) hb)
           have n1_:=K_ (blk_below (g := gb192) (o := .cells #[.int .i64 t185, .int .i64 t186, .int .u32 t187, .int .i64 t188, .int .i64 t189, .int .i64 t190, .int .i64 t191] 56 (0, 0)) (by (with_reducible repeat (first|refine bN_ ?_ _|refine bD_ ?_|refine bA_ ?_ _)); exact BK192.out) hb)
           have n2_:=K_ (below_step (by repeat (first|(with_reducible first|exact HB.out|apply pA_|apply pN_|apply pD_|refine bS_ ?_ GE176.out|refine bS_ ?_ GE192.out)|exact HB.out)) hb)
           clear BK176
           clear BK192
           clear HB
           have BK176:=n0_
           have BK192:=n1_
           have HB:=n2_
           clear n0_ n1_ n2_
           (try clear hb)
           (try clear hb2)
           (try clear hk)
           (try clear hi)
           refine hK.out _ _ ⟨(blk_cell BK192.out 0).trans rfl, (blk_cell BK192.out 1).trans rfl, (blk_cell BK192.out 2).trans rfl, (blk_cell BK192.out 3).trans rfl, (blk_cell BK192.out 4).trans rfl, (blk_cell BK192.out 5).trans rfl, (blk_cell BK192.out 6).trans rfl⟩ (fun hHeld => ?_)
           clear hK K
           refine norm_ (a' := ?_) ?_ ?_
           rotate_left
           ·
            show Act.put _ (some 48) _ = _
            simp only [Act.put, e1_, e2_, e3_, i64_w, i32_w]
            rfl
           refine pure_ (i := 15) (N := some 49) (v := ?_) (a' := ?_) qm43 rfl rfl (any_of HT_.out (by kernel_rfl)) (fun _ _ _ h => h) (Or.inl ⟨by rfl, ?_⟩) ?_ ?_
           rotate_left
           ·
            intro w'
            go_simp
            with_reducible rfl
           rotate_left
           ·
            simp only [Act.put, e1_, e2_, e3_, i64_w, i32_w]
            rfl
           refine pure_ (i := 16) (N := some 50) (v := ?_) (a' := ?_) qm44 rfl rfl (any_of HT_.out (by kernel_rfl)) (fun _ _ _ h => h) (Or.inl ⟨by rfl, ?_⟩) ?_ ?_
           rotate_left
           ·
            intro w'
            go_simp
            with_reducible rfl
           rotate_left
           ·
            simp only [Act.put, e1_, e2_, e3_, i64_w, i32_w]
            rfl
           refine pure_ (i := 17) (N := some 51) (v := undef) (a' := ?_) qm75 rfl rfl (any_of HT_.out (by kernel_rfl)) (fun _ _ _ h => h) (Or.inr ⟨by rfl, rfl⟩) ?_ ?_
           rotate_left
           ·
            simp only [Act.put, e1_, e2_, e3_, i64_w, i32_w]
            rfl
           refine pure_ (i := 18) (N := some 52) (v := undef) (a' := ?_) qm76 rfl rfl (any_of HT_.out (by kernel_rfl)) (fun _ _ _ h => h) (Or.inr ⟨by rfl, rfl⟩) ?_ ?_
           rotate_left
           ·
            simp only [Act.put, e1_, e2_, e3_, i64_w, i32_w]
            rfl
           refine pure_ (i := 19) (N := some 53) (v := undef) (a' := ?_) qm77 rfl rfl (any_of HT_.out (by kernel_rfl)) (fun _ _ _ h => h) (Or.inr ⟨by rfl, rfl⟩) ?_ ?_
           rotate_left
           ·
            simp only [Act.put, e1_, e2_, e3_, i64_w, i32_w]
            rfl
           refine pure_ (i := 20) (N := some 54) (v := undef) (a' := ?_) qm48 rfl rfl (any_of HT_.out (by kernel_rfl)) (fun _ _ _ h => h) (Or.inr ⟨by rfl, rfl⟩) ?_ ?_
           rotate_left
           ·
            simp only [Act.put, e1_, e2_, e3_, i64_w, i32_w]
            rfl
           refine pure_ (i := 21) (N := some 55) (v := undef) (a' := ?_) qm49 rfl rfl (any_of HT_.out (by kernel_rfl)) (fun _ _ _ h => h) (Or.inr ⟨by rfl, rfl⟩) ?_ ?_
           rotate_left
           ·
            simp only [Act.put, e1_, e2_, e3_, i64_w, i32_w]
            rfl
           refine pure_ (i := 22) (N := some 56) (v := ?_) (a' := ?_) qm50 rfl rfl (any_of HT_.out (by kernel_rfl)) (fun _ _ _ h => h) (Or.inl ⟨by rfl, ?_⟩) ?_ ?_
           rotate_left
           ·
            intro w'
            go_simp
            with_reducible rfl
           rotate_left
           ·
            simp only [Act.put, e1_, e2_, e3_, i64_w, i32_w]
            rfl
           refine pure_ (i := 23) (N := some 57) (v := ?_) (a' := ?_) qm51 rfl rfl (any_of HT_.out (by kernel_rfl)) (fun _ _ _ h => h) (Or.inl ⟨by rfl, ?_⟩) ?_ ?_
           rotate_left
           ·
            intro w'
            go_simp
            with_reducible rfl
           rotate_left
           ·
            simp only [Act.put, e1_, e2_, e3_, i64_w, i32_w]
            rfl
           refine pure_ (i := 24) (N := some 58) (v := ?_) (a' := ?_) qm52 rfl rfl (any_of HT_.out (by kernel_rfl)) (fun _ _ _ h => h) (Or.inl ⟨by rfl, ?_⟩) ?_ ?_
           rotate_left
           ·
            intro w'
            go_simp
            with_reducible rfl
           rotate_left
           ·
            simp only [Act.put, e1_, e2_, e3_, i64_w, i32_w]
            rfl
           refine take_ (i := 25) (N := some 59) (v := ?_) (a' := ?_) qm53 rfl rfl (take_ofW HT_.out HW_.out (by kernel_rfl)) (fun _ _ _ h => h) (Or.inl ⟨by rfl, ?_⟩) hHeld ?_ ?_
           rotate_left
           ·
            rintro w' ⟨s0, s1, s2, s3, s4, s5, s6⟩
            go_simp
            with_reducible rfl
           rotate_left
           ·
            simp only [Act.put, e1_, e2_, e3_, i64_w, i32_w]
            rfl
           refine take_ (i := 26) (N := some 60) (v := ?_) (a' := ?_) qm54 rfl rfl (take_ofW HT_.out HW_.out (by kernel_rfl)) (fun _ _ _ h => h) (Or.inl ⟨by rfl, ?_⟩) hHeld ?_ ?_
           rotate_left
           ·
            rintro w' ⟨s0, s1, s2, s3, s4, s5, s6⟩
            go_simp
            with_reducible rfl
           rotate_left
           ·
            simp only [Act.put, e1_, e2_, e3_, i64_w, i32_w]
            rfl
           refine one_ (i := 27) (N := some 61) qm55 rfl rfl (one_of HT_.out (by kernel_rfl)) (by decide) (fun K hK => ?_)
           refine goes_ Try.func34 (by kernel_rfl) rfl #[.agg #[.int .i64 t185, .int .i64 t186, .int .u32 t187, .int .i64 t188, .int .i64 t189, .int .i64 t190, .int .i64 t191]] (by rfl) rfl rfl (by (try simp only [List.map_toArray, List.map_cons, List.map_nil]); first|done|rfl|(simp only [List.length_drop, List.length_take]; rfl)) ?_
           with_reducible refine (grid_Config_All.calls kj7 t185 t186 t187 t188 t189 t190 t191 t207 _ A62.out).mono ?_
           rintro e w75 ⟨rfl, hb⟩
           refine ⟨_, rfl, ?_⟩
           have n0_:=K_ (blk_below (g := gb176) (o := .cells #[.int .i64 t178, .int .i64 t179, .int .u32 t180, .int .i64 t181, .int .i64 t182, .int .i64 t183, .int .i64 t184] 52 (0, 0)) (by (with_reducible repeat (first|refine bN_ ?_ _|refine bD_ ?_|refine bA_ ?_ _)); exact BK176.out) hb)
           have n1_:=K_ (blk_below (g := gb192) (o := .cells #[.int .i64 t185, .int .i64 t186, .int .u32 t187, .int .i64 t188, .int .i64 t189, .int .i64 t190, .int .i64 t191] 56 (0, 0)) (by (with_reducible repeat (first|refine bN_ ?_ _|refine bD_ ?_|refine bA_ ?_ _)); exact BK192.out) hb)
           have n2_:=K_ (below_step (by repeat (first|(with_reducible first|exact HB.out|apply pA_|apply pN_|apply pD_|refine bS_ ?_ GE176.out|refine bS_ ?_ GE192.out)|exact HB.out)) hb)
           clear BK176
           clear BK192
           clear HB
           have BK176:=n0_
           have BK192:=n1_
           have HB:=n2_
           clear n0_ n1_ n2_
           (try clear hb)
           (try clear hb2)
           (try clear hk)
           (try clear hi)
           refine hK.out _ _ ⟨(blk_cell BK192.out 0).trans rfl, (blk_cell BK192.out 1).trans rfl, (blk_cell BK192.out 2).trans rfl, (blk_cell BK192.out 3).trans rfl, (blk_cell BK192.out 4).trans rfl, (blk_cell BK192.out 5).trans rfl, (blk_cell BK192.out 6).trans rfl⟩ (fun hHeld => ?_)
           clear hK K
           refine norm_ (a' := ?_) ?_ ?_
           rotate_left
           ·
            show Act.put _ (some 61) _ = _
            simp only [Act.put, e1_, e2_, e3_, i64_w, i32_w]
            rfl
           refine one_ (i := 28) (N := some 62) qm56 rfl rfl (one_of HT_.out (by kernel_rfl)) (by decide) (fun K hK => ?_)
           refine goes_ Try.func31 (by kernel_rfl) rfl #[.agg #[.int .i64 t185, .int .i64 t186, .int .u32 t187, .int .i64 t188, .int .i64 t189, .int .i64 t190, .int .i64 t191], .int .u32 t207] (by rfl) rfl rfl (by (try simp only [List.map_toArray, List.map_cons, List.map_nil]); first|done|rfl|(simp only [List.length_drop, List.length_take]; rfl)) ?_
           with_reducible refine (grid_Config_IsFirst.calls kj7 t185 t186 t187 t188 t189 t190 t191 t207 true _ A63.out).mono ?_
           rintro e w76 ⟨rfl, hb⟩
           refine ⟨_, rfl, ?_⟩
           have n0_:=K_ (blk_below (g := gb176) (o := .cells #[.int .i64 t178, .int .i64 t179, .int .u32 t180, .int .i64 t181, .int .i64 t182, .int .i64 t183, .int .i64 t184] 52 (0, 0)) (by (with_reducible repeat (first|refine bN_ ?_ _|refine bD_ ?_|refine bA_ ?_ _)); exact BK176.out) hb)
           have n1_:=K_ (blk_below (g := gb192) (o := .cells #[.int .i64 t185, .int .i64 t186, .int .u32 t187, .int .i64 t188, .int .i64 t189, .int .i64 t190, .int .i64 t191] 56 (0, 0)) (by (with_reducible repeat (first|refine bN_ ?_ _|refine bD_ ?_|refine bA_ ?_ _)); exact BK192.out) hb)
           have n2_:=K_ (below_step (by repeat (first|(with_reducible first|exact HB.out|apply pA_|apply pN_|apply pD_|refine bS_ ?_ GE176.out|refine bS_ ?_ GE192.out)|exact HB.out)) hb)
           clear BK176
           clear BK192
           clear HB
           have BK176:=n0_
           have BK192:=n1_
           have HB:=n2_
           clear n0_ n1_ n2_
           (try clear hb)
           (try clear hb2)
           (try clear hk)
           (try clear hi)
           refine hK.out _ _ ⟨(blk_cell BK192.out 0).trans rfl, (blk_cell BK192.out 1).trans rfl, (blk_cell BK192.out 2).trans rfl, (blk_cell BK192.out 3).trans rfl, (blk_cell BK192.out 4).trans rfl, (blk_cell BK192.out 5).trans rfl, (blk_cell BK192.out 6).trans rfl⟩ (fun hHeld => ?_)
           clear hK K
           refine norm_ (a' := ?_) ?_ ?_
           rotate_left
           ·
            show Act.put _ (some 62) _ = _
            simp only [Act.put, e1_, e2_, e3_, i64_w, i32_w]
            rfl
           refine pure_ (i := 29) (N := some 63) (v := ?_) (a' := ?_) qm57 rfl rfl (any_of HT_.out (by kernel_rfl)) (fun _ _ _ h => h) (Or.inl ⟨by rfl, ?_⟩) ?_ ?_
           rotate_left
           ·
            intro w'
            go_simp
            with_reducible rfl
           rotate_left
           ·
            simp only [Act.put, e1_, e2_, e3_, i64_w, i32_w]
            rfl
           refine pure_ (i := 30) (N := some 64) (v := ?_) (a' := ?_) qm58 rfl rfl (any_of HT_.out (by kernel_rfl)) (fun _ _ _ h => h) (Or.inl ⟨by rfl, ?_⟩) ?_ ?_
           rotate_left
           ·
            intro w'
            go_simp
            with_reducible rfl
           rotate_left
           ·
            simp only [Act.put, e1_, e2_, e3_, i64_w, i32_w]
            rfl
           refine take_ (i := 31) (N := some 65) (v := ?_) (a' := ?_) qm59 rfl rfl (take_ofW HT_.out HW_.out (by kernel_rfl)) (fun _ _ _ h => h) (Or.inl ⟨by rfl, ?_⟩) hHeld ?_ ?_
           rotate_left
           ·
            rintro w' ⟨s0, s1, s2, s3, s4, s5, s6⟩
            go_simp
            with_reducible rfl
           rotate_left
           ·
            simp only [Act.put, e1_, e2_, e3_, i64_w, i32_w]
            rfl
           refine take_ (i := 32) (N := some 66) (v := ?_) (a' := ?_) qm60 rfl rfl (take_ofW HT_.out HW_.out (by kernel_rfl)) (fun _ _ _ h => h) (Or.inl ⟨by rfl, ?_⟩) hHeld ?_ ?_
           rotate_left
           ·
            rintro w' ⟨s0, s1, s2, s3, s4, s5, s6⟩
            go_simp
            with_reducible rfl
           rotate_left
           ·
            simp only [Act.put, e1_, e2_, e3_, i64_w, i32_w]
            rfl
           refine one_ (i := 33) (N := some 67) qm61 rfl rfl (one_of HT_.out (by kernel_rfl)) (by decide) (fun K hK => ?_)
           refine goes_ Try.func34 (by kernel_rfl) rfl #[.agg #[.int .i64 t185, .int .i64 t186, .int .u32 t187, .int .i64 t188, .int .i64 t189, .int .i64 t190, .int .i64 t191]] (by rfl) rfl rfl (by (try simp only [List.map_toArray, List.map_cons, List.map_nil]); first|done|rfl|(simp only [List.length_drop, List.length_take]; rfl)) ?_
           with_reducible refine (grid_Config_All.calls kj7 t185 t186 t187 t188 t189 t190 t191 t209 _ A65.out).mono ?_
           rintro e w77 ⟨rfl, hb⟩
           refine ⟨_, rfl, ?_⟩
           have n0_:=K_ (blk_below (g := gb176) (o := .cells #[.int .i64 t178, .int .i64 t179, .int .u32 t180, .int .i64 t181, .int .i64 t182, .int .i64 t183, .int .i64 t184] 52 (0, 0)) (by (with_reducible repeat (first|refine bN_ ?_ _|refine bD_ ?_|refine bA_ ?_ _)); exact BK176.out) hb)
           have n1_:=K_ (blk_below (g := gb192) (o := .cells #[.int .i64 t185, .int .i64 t186, .int .u32 t187, .int .i64 t188, .int .i64 t189, .int .i64 t190, .int .i64 t191] 56 (0, 0)) (by (with_reducible repeat (first|refine bN_ ?_ _|refine bD_ ?_|refine bA_ ?_ _)); exact BK192.out) hb)
           have n2_:=K_ (below_step (by repeat (first|(with_reducible first|exact HB.out|apply pA_|apply pN_|apply pD_|refine bS_ ?_ GE176.out|refine bS_ ?_ GE192.out)|exact HB.out)) hb)
           clear BK176
           clear BK192
           clear HB
           have BK176:=n0_
           have BK192:=n1_
           have HB:=n2_
           clear n0_ n1_ n2_
           (try clear hb)
           (try clear hb2)
           (try clear hk)
           (try clear hi)
           refine hK.out _ _ ⟨(blk_cell BK192.out 0).trans rfl, (blk_cell BK192.out 1).trans rfl, (blk_cell BK192.out 2).trans rfl, (blk_cell BK192.out 3).trans rfl, (blk_cell BK192.out 4).trans rfl, (blk_cell BK192.out 5).trans rfl, (blk_cell BK192.out 6).trans rfl⟩ (fun hHeld => ?_)
           clear hK K
           refine norm_ (a' := ?_) ?_ ?_
           rotate_left
           ·
            show Act.put _ (some 67) _ = _
            simp only [Act.put, e1_, e2_, e3_, i64_w, i32_w]
            rfl
           refine one_ (i := 34) (N := some 68) qm62 rfl rfl (one_of HT_.out (by kernel_rfl)) (by decide) (fun K hK => ?_)
           refine goes_ Try.func33 (by kernel_rfl) rfl #[.agg #[.int .i64 t185, .int .i64 t186, .int .u32 t187, .int .i64 t188, .int .i64 t189, .int .i64 t190, .int .i64 t191], .int .u32 t209] (by rfl) rfl rfl (by (try simp only [List.map_toArray, List.map_cons, List.map_nil]); first|done|rfl|(simp only [List.length_drop, List.length_take]; rfl)) ?_
           with_reducible refine (grid_Config_IsSecond.calls kj7 t185 t186 t187 t188 t189 t190 t191 t209 true _ A66.out).mono ?_
           rintro e w78 ⟨rfl, hb⟩
           refine ⟨_, rfl, ?_⟩
           have n0_:=K_ (blk_below (g := gb176) (o := .cells #[.int .i64 t178, .int .i64 t179, .int .u32 t180, .int .i64 t181, .int .i64 t182, .int .i64 t183, .int .i64 t184] 52 (0, 0)) (by (with_reducible repeat (first|refine bN_ ?_ _|refine bD_ ?_|refine bA_ ?_ _)); exact BK176.out) hb)
           have n1_:=K_ (blk_below (g := gb192) (o := .cells #[.int .i64 t185, .int .i64 t186, .int .u32 t187, .int .i64 t188, .int .i64 t189, .int .i64 t190, .int .i64 t191] 56 (0, 0)) (by (with_reducible repeat (first|refine bN_ ?_ _|refine bD_ ?_|refine bA_ ?_ _)); exact BK192.out) hb)
           have n2_:=K_ (below_step (by repeat (first|(with_reducible first|exact HB.out|apply pA_|apply pN_|apply pD_|refine bS_ ?_ GE176.out|refine bS_ ?_ GE192.out)|exact HB.out)) hb)
           clear BK176
           clear BK192
           clear HB
           have BK176:=n0_
           have BK192:=n1_
           have HB:=n2_
           clear n0_ n1_ n2_
           (try clear hb)
           (try clear hb2)
           (try clear hk)
           (try clear hi)
           refine hK.out _ _ ⟨(blk_cell BK192.out 0).trans rfl, (blk_cell BK192.out 1).trans rfl, (blk_cell BK192.out 2).trans rfl, (blk_cell BK192.out 3).trans rfl, (blk_cell BK192.out 4).trans rfl, (blk_cell BK192.out 5).trans rfl, (blk_cell BK192.out 6).trans rfl⟩ (fun hHeld => ?_)
           clear hK K
           refine norm_ (a' := ?_) ?_ ?_
           rotate_left
           ·
            show Act.put _ (some 68) _ = _
            simp only [Act.put, e1_, e2_, e3_, i64_w, i32_w]
            rfl
           refine pure_ (i := 35) (N := some 69) (v := ?_) (a' := ?_) qm63 rfl rfl (any_of HT_.out (by kernel_rfl)) (fun _ _ _ h => h) (Or.inl ⟨by rfl, ?_⟩) ?_ ?_
           rotate_left
           ·
            intro w'
            go_simp
            with_reducible rfl
           rotate_left
           ·
            simp only [Act.put, e1_, e2_, e3_, i64_w, i32_w]
            rfl
           refine pure_ (i := 36) (N := some 70) (v := ?_) (a' := ?_) qm64 rfl rfl (any_of HT_.out (by kernel_rfl)) (fun _ _ _ h => h) (Or.inl ⟨by rfl, ?_⟩) ?_ ?_
           rotate_left
           ·
            intro w'
            go_simp
            with_reducible rfl
           rotate_left
           ·
            simp only [Act.put, e1_, e2_, e3_, i64_w, i32_w]
            rfl
           refine take_ (i := 37) (N := some 71) (v := ?_) (a' := ?_) qm65 rfl rfl (take_ofW HT_.out HW_.out (by kernel_rfl)) (fun _ _ _ h => h) (Or.inl ⟨by rfl, ?_⟩) hHeld ?_ ?_
           rotate_left
           ·
            rintro w' ⟨s0, s1, s2, s3, s4, s5, s6⟩
            go_simp
            with_reducible rfl
           rotate_left
           ·
            simp only [Act.put, e1_, e2_, e3_, i64_w, i32_w]
            rfl
           refine one_ (i := 38) (N := some 72) qm66 rfl rfl (one_of HT_.out (by kernel_rfl)) (by decide) (fun K hK => ?_)
           refine goes_ Try.func31 (by kernel_rfl) rfl #[.agg #[.int .i64 t185, .int .i64 t186, .int .u32 t187, .int .i64 t188, .int .i64 t189, .int .i64 t190, .int .i64 t191], .int .u32 0] (by rfl) rfl rfl (by (try simp only [List.map_toArray, List.map_cons, List.map_nil]); first|done|rfl|(simp only [List.length_drop, List.length_take]; rfl)) ?_
           with_reducible refine (grid_Config_IsFirst.calls kj7 t185 t186 t187 t188 t189 t190 t191 0 false _ A68.out).mono ?_
           rintro e w79 ⟨rfl, hb⟩
           refine ⟨_, rfl, ?_⟩
           have n0_:=K_ (blk_below (g := gb176) (o := .cells #[.int .i64 t178, .int .i64 t179, .int .u32 t180, .int .i64 t181, .int .i64 t182, .int .i64 t183, .int .i64 t184] 52 (0, 0)) (by (with_reducible repeat (first|refine bN_ ?_ _|refine bD_ ?_|refine bA_ ?_ _)); exact BK176.out) hb)
           have n1_:=K_ (blk_below (g := gb192) (o := .cells #[.int .i64 t185, .int .i64 t186, .int .u32 t187, .int .i64 t188, .int .i64 t189, .int .i64 t190, .int .i64 t191] 56 (0, 0)) (by (with_reducible repeat (first|refine bN_ ?_ _|refine bD_ ?_|refine bA_ ?_ _)); exact BK192.out) hb)
           have n2_:=K_ (below_step (by repeat (first|(with_reducible first|exact HB.out|apply pA_|apply pN_|apply pD_|refine bS_ ?_ GE176.out|refine bS_ ?_ GE192.out)|exact HB.out)) hb)
           clear BK176
           clear BK192
           clear HB
           have BK176:=n0_
           have BK192:=n1_
           have HB:=n2_
           clear n0_ n1_ n2_
           (try clear hb)
           (try clear hb2)
           (try clear hk)
           (try clear hi)
           refine hK.out _ _ ⟨(blk_cell BK192.out 0).trans rfl, (blk_cell BK192.out 1).trans rfl, (blk_cell BK192.out 2).trans rfl, (blk_cell BK192.out 3).trans rfl, (blk_cell BK192.out 4).trans rfl, (blk_cell BK192.out 5).trans rfl, (blk_cell BK192.out 6).trans rfl⟩ (fun hHeld => ?_)
           clear hK K
           refine norm_ (a' := ?_) ?_ ?_
           rotate_left
           ·
            show Act.put _ (some 72) _ = _
            simp only [Act.put, e1_, e2_, e3_, i64_w, i32_w]
            rfl
           refine pure_ (i := 39) (N := some 73) (v := ?_) (a' := ?_) qm67 rfl rfl (any_of HT_.out (by kernel_rfl)) (fun _ _ _ h => h) (Or.inl ⟨by rfl, ?_⟩) ?_ ?_
           rotate_left
           ·
            intro w'
            go_simp
            with_reducible rfl
           rotate_left
           ·
            simp only [Act.put, e1_, e2_, e3_, i64_w, i32_w]
            rfl
           refine pure_ (i := 40) (N := some 74) (v := ?_) (a' := ?_) qm68 rfl rfl (any_of HT_.out (by kernel_rfl)) (fun _ _ _ h => h) (Or.inl ⟨by rfl, ?_⟩) ?_ ?_
           rotate_left
           ·
            intro w'
            go_simp
            with_reducible rfl
           rotate_left
           ·
            simp only [Act.put, e1_, e2_, e3_, i64_w, i32_w]
            rfl
           refine pure_ (i := 41) (N := some 75) (v := ?_) (a' := ?_) qm69 rfl rfl (any_of HT_.out (by kernel_rfl)) (fun _ _ _ h => h) (Or.inl ⟨by rfl, ?_⟩) ?_ ?_
           rotate_left
           ·
            intro w'
            go_simp
            with_reducible rfl
           rotate_left
           ·
            simp only [Act.put, e1_, e2_, e3_, i64_w, i32_w]
            rfl
           refine take_ (i := 42) (N := some 76) (v := ?_) (a' := ?_) qm70 rfl rfl (take_ofW HT_.out HW_.out (by kernel_rfl)) (fun _ _ _ h => h) (Or.inl ⟨by rfl, ?_⟩) hHeld ?_ ?_
           rotate_left
           ·
            rintro w' ⟨s0, s1, s2, s3, s4, s5, s6⟩
            go_simp
            with_reducible rfl
           rotate_left
           ·
            simp only [Act.put, e1_, e2_, e3_, i64_w, i32_w]
            rfl
           refine one_ (i := 43) (N := some 77) qm71 rfl rfl (one_of HT_.out (by kernel_rfl)) (by decide) (fun K hK => ?_)
           refine goes_ Try.func33 (by kernel_rfl) rfl #[.agg #[.int .i64 t185, .int .i64 t186, .int .u32 t187, .int .i64 t188, .int .i64 t189, .int .i64 t190, .int .i64 t191], .int .u32 0] (by rfl) rfl rfl (by (try simp only [List.map_toArray, List.map_cons, List.map_nil]); first|done|rfl|(simp only [List.length_drop, List.length_take]; rfl)) ?_
           with_reducible refine (grid_Config_IsSecond.calls kj7 t185 t186 t187 t188 t189 t190 t191 0 t212 _ A70.out).mono ?_
           rintro e w80 ⟨rfl, hb⟩
           refine ⟨_, rfl, ?_⟩
           have n0_:=K_ (blk_below (g := gb176) (o := .cells #[.int .i64 t178, .int .i64 t179, .int .u32 t180, .int .i64 t181, .int .i64 t182, .int .i64 t183, .int .i64 t184] 52 (0, 0)) (by (with_reducible repeat (first|refine bN_ ?_ _|refine bD_ ?_|refine bA_ ?_ _)); exact BK176.out) hb)
           have n1_:=K_ (blk_below (g := gb192) (o := .cells #[.int .i64 t185, .int .i64 t186, .int .u32 t187, .int .i64 t188, .int .i64 t189, .int .i64 t190, .int .i64 t191] 56 (0, 0)) (by (with_reducible repeat (first|refine bN_ ?_ _|refine bD_ ?_|refine bA_ ?_ _)); exact BK192.out) hb)
           have n2_:=K_ (below_step (by repeat (first|(with_reducible first|exact HB.out|apply pA_|apply pN_|apply pD_|refine bS_ ?_ GE176.out|refine bS_ ?_ GE192.out)|exact HB.out)) hb)
           clear BK176
           clear BK192
           clear HB
           have BK176:=n0_
           have BK192:=n1_
           have HB:=n2_
           clear n0_ n1_ n2_
           (try clear hb)
           (try clear hb2)
           (try clear hk)
           (try clear hi)
           refine hK.out _ _ ⟨(blk_cell BK192.out 0).trans rfl, (blk_cell BK192.out 1).trans rfl, (blk_cell BK192.out 2).trans rfl, (blk_cell BK192.out 3).trans rfl, (blk_cell BK192.out 4).trans rfl, (blk_cell BK192.out 5).trans rfl, (blk_cell BK192.out 6).trans rfl⟩ (fun hHeld => ?_)
           clear hK K
           refine norm_ (a' := ?_) ?_ ?_
           rotate_left
           ·
            show Act.put _ (some 77) _ = _
            simp only [Act.put, e1_, e2_, e3_, i64_w, i32_w]
            rfl
           refine pure_ (i := 44) (N := some 78) (v := ?_) (a' := ?_) qm72 rfl rfl (any_of HT_.out (by kernel_rfl)) (fun _ _ _ h => h) (Or.inl ⟨by rfl, ?_⟩) ?_ ?_
           rotate_left
           ·
            intro w'
            go_simp
            with_reducible rfl
           rotate_left
           ·
            simp only [Act.put, e1_, e2_, e3_, i64_w, i32_w]
            rfl
           refine pure_ (i := 45) (N := some 79) (v := ?_) (a' := ?_) qm73 rfl rfl (any_of HT_.out (by kernel_rfl)) (fun _ _ _ h => h) (Or.inl ⟨by rfl, ?_⟩) ?_ ?_
           rotate_left
           ·
            intro w'
            go_simp
            with_reducible rfl
           rotate_left
           ·
            simp only [Act.put, e1_, e2_, e3_, i64_w, i32_w]
            rfl
           refine pure_ (i := 46) (N := some 6) (v := ?_) (a' := ?_) qm74 rfl rfl (any_of HT_.out (by kernel_rfl)) (fun _ _ _ h => h) (Or.inl ⟨by rfl, ?_⟩) ?_ ?_
           rotate_left
           ·
            intro w'
            go_simp
            with_reducible rfl
           rotate_left
           ·
            simp only [Act.put, e1_, e2_, e3_, i64_w, i32_w]
            rfl
           refine done_ (done_of HT_.out (by kernel_rfl)) ?_
           try go_wp2
           go_ret
           exact ⟨by first|rfl|(simp [errW_none, errW_some] <;> rfl)|(simp [*, errW_none, errW_some] <;> rfl), by repeat (first|(with_reducible first|exact HB.out|apply pA_|apply pN_|apply pD_|refine bS_ ?_ GE176.out|refine bS_ ?_ GE192.out)|exact HB.out)⟩
         ·
          replace c67 := Bool.eq_false_iff.mpr c67
          subst c67
          have H1 : (some false) = some r := by rw [if_neg (show ¬ (false = true) by decide)] at H; exact H
          clear H
          have H:=H1
          clear H1
          obtain rfl := Option.some.inj H
          exact absurd hr_ (by decide)
        ·
         replace c64 := Bool.eq_false_iff.mpr c64
         subst c64
         have H1 : (some false) = some r := by rw [if_neg (show ¬ (false = true) by decide)] at H; exact H
         clear H
         have H:=H1
         clear H1
         obtain rfl := Option.some.inj H
         exact absurd hr_ (by decide)
      ·
       replace c37 := Bool.eq_false_iff.mpr c37
       subst c37
       have H1 : (some false) = some r := by rw [if_neg (show ¬ (false = true) by decide)] at H; exact H
       clear H
       have H:=H1
       clear H1
       obtain rfl := Option.some.inj H
       exact absurd hr_ (by decide)
     ·
      replace c35 := Bool.eq_false_iff.mpr c35
      subst c35
      have H1 : ((grid_Config_IsSecond.f kj7 t185 t186 t187 t188 t189 t190 t191 a1).bind fun t213 => (if t213 = true then ((grid_Config_IsSecond.f kj7 t185 t186 t187 t188 t189 t190 t191 (Go.bits .or .u32 a1 a2)).bind fun t214 => (if t214 = true then ((grid_Config_All.f kj7 t185 t186 t187 t188 t189 t190 t191).bind fun t215 => ((grid_Config_IsFirst.f kj7 t185 t186 t187 t188 t189 t190 t191 t215).bind fun t216 => (if t216 = true then ((grid_Config_All.f kj7 t185 t186 t187 t188 t189 t190 t191).bind fun t217 => ((grid_Config_IsSecond.f kj7 t185 t186 t187 t188 t189 t190 t191 t217).bind fun t218 => (if t218 = true then ((grid_Config_IsFirst.f kj7 t185 t186 t187 t188 t189 t190 t191 0).bind fun t219 => (if t219 = true then (some false) else ((grid_Config_IsSecond.f kj7 t185 t186 t187 t188 t189 t190 t191 0).bind fun t220 => (some (!t220))))) else (some false)))) else (some false)))) else (some false))) else ((grid_Config_All.f kj7 t185 t186 t187 t188 t189 t190 t191).bind fun t221 => ((grid_Config_IsFirst.f kj7 t185 t186 t187 t188 t189 t190 t191 t221).bind fun t222 => (if t222 = true then ((grid_Config_All.f kj7 t185 t186 t187 t188 t189 t190 t191).bind fun t223 => ((grid_Config_IsSecond.f kj7 t185 t186 t187 t188 t189 t190 t191 t223).bind fun t224 => (if t224 = true then ((grid_Config_IsFirst.f kj7 t185 t186 t187 t188 t189 t190 t191 0).bind fun t225 => (if t225 = true then (some false) else ((grid_Config_IsSecond.f kj7 t185 t186 t187 t188 t189 t190 t191 0).bind fun t226 => (some (!t226))))) else (some false)))) else (some false)))))) = some r := by rw [if_neg (show ¬ (false = true) by decide)] at H; exact H
      clear H
      have H:=H1
      clear H1
      replace H := Option.bind_eq_some_iff.mp H
      obtain ⟨t213, A810, H⟩ := H
      replace H : (if t213 = true then ((grid_Config_IsSecond.f kj7 t185 t186 t187 t188 t189 t190 t191 (Go.bits .or .u32 a1 a2)).bind fun t214 => (if t214 = true then ((grid_Config_All.f kj7 t185 t186 t187 t188 t189 t190 t191).bind fun t215 => ((grid_Config_IsFirst.f kj7 t185 t186 t187 t188 t189 t190 t191 t215).bind fun t216 => (if t216 = true then ((grid_Config_All.f kj7 t185 t186 t187 t188 t189 t190 t191).bind fun t217 => ((grid_Config_IsSecond.f kj7 t185 t186 t187 t188 t189 t190 t191 t217).bind fun t218 => (if t218 = true then ((grid_Config_IsFirst.f kj7 t185 t186 t187 t188 t189 t190 t191 0).bind fun t219 => (if t219 = true then (some false) else ((grid_Config_IsSecond.f kj7 t185 t186 t187 t188 t189 t190 t191 0).bind fun t220 => (some (!t220))))) else (some false)))) else (some false)))) else (some false))) else ((grid_Config_All.f kj7 t185 t186 t187 t188 t189 t190 t191).bind fun t221 => ((grid_Config_IsFirst.f kj7 t185 t186 t187 t188 t189 t190 t191 t221).bind fun t222 => (if t222 = true then ((grid_Config_All.f kj7 t185 t186 t187 t188 t189 t190 t191).bind fun t223 => ((grid_Config_IsSecond.f kj7 t185 t186 t187 t188 t189 t190 t191 t223).bind fun t224 => (if t224 = true then ((grid_Config_IsFirst.f kj7 t185 t186 t187 t188 t189 t190 t191 0).bind fun t225 => (if t225 = true then (some false) else ((grid_Config_IsSecond.f kj7 t185 t186 t187 t188 t189 t190 t191 0).bind fun t226 => (some (!t226))))) else (some false)))) else (some false))))) = some r := H
      have A81:=K_ A810
      clear A810
      by_cases c82 : t213 = true
      ·
       subst c82
       have H1 : ((grid_Config_IsSecond.f kj7 t185 t186 t187 t188 t189 t190 t191 (Go.bits .or .u32 a1 a2)).bind fun t214 => (if t214 = true then ((grid_Config_All.f kj7 t185 t186 t187 t188 t189 t190 t191).bind fun t215 => ((grid_Config_IsFirst.f kj7 t185 t186 t187 t188 t189 t190 t191 t215).bind fun t216 => (if t216 = true then ((grid_Config_All.f kj7 t185 t186 t187 t188 t189 t190 t191).bind fun t217 => ((grid_Config_IsSecond.f kj7 t185 t186 t187 t188 t189 t190 t191 t217).bind fun t218 => (if t218 = true then ((grid_Config_IsFirst.f kj7 t185 t186 t187 t188 t189 t190 t191 0).bind fun t219 => (if t219 = true then (some false) else ((grid_Config_IsSecond.f kj7 t185 t186 t187 t188 t189 t190 t191 0).bind fun t220 => (some (!t220))))) else (some false)))) else (some false)))) else (some false))) = some r := by rw [if_pos rfl] at H; exact H
       clear H
       have H:=H1
       clear H1
       replace H := Option.bind_eq_some_iff.mp H
       obtain ⟨t214, A830, H⟩ := H
       replace H : (if t214 = true then ((grid_Config_All.f kj7 t185 t186 t187 t188 t189 t190 t191).bind fun t215 => ((grid_Config_IsFirst.f kj7 t185 t186 t187 t188 t189 t190 t191 t215).bind fun t216 => (if t216 = true then ((grid_Config_All.f kj7 t185 t186 t187 t188 t189 t190 t191).bind fun t217 => ((grid_Config_IsSecond.f kj7 t185 t186 t187 t188 t189 t190 t191 t217).bind fun t218 => (if t218 = true then ((grid_Config_IsFirst.f kj7 t185 t186 t187 t188 t189 t190 t191 0).bind fun t219 => (if t219 = true then (some false) else ((grid_Config_IsSecond.f kj7 t185 t186 t187 t188 t189 t190 t191 0).bind fun t220 => (some (!t220))))) else (some false)))) else (some false)))) else (some false)) = some r := H
       have A83:=K_ A830
       clear A830
       by_cases c84 : t214 = true
       ·
        subst c84
        have H1 : ((grid_Config_All.f kj7 t185 t186 t187 t188 t189 t190 t191).bind fun t215 => ((grid_Config_IsFirst.f kj7 t185 t186 t187 t188 t189 t190 t191 t215).bind fun t216 => (if t216 = true then ((grid_Config_All.f kj7 t185 t186 t187 t188 t189 t190 t191).bind fun t217 => ((grid_Config_IsSecond.f kj7 t185 t186 t187 t188 t189 t190 t191 t217).bind fun t218 => (if t218 = true then ((grid_Config_IsFirst.f kj7 t185 t186 t187 t188 t189 t190 t191 0).bind fun t219 => (if t219 = true then (some false) else ((grid_Config_IsSecond.f kj7 t185 t186 t187 t188 t189 t190 t191 0).bind fun t220 => (some (!t220))))) else (some false)))) else (some false)))) = some r := by rw [if_pos rfl] at H; exact H
        clear H
        have H:=H1
        clear H1
        replace H := Option.bind_eq_some_iff.mp H
        obtain ⟨t215, A850, H⟩ := H
        replace H : ((grid_Config_IsFirst.f kj7 t185 t186 t187 t188 t189 t190 t191 t215).bind fun t216 => (if t216 = true then ((grid_Config_All.f kj7 t185 t186 t187 t188 t189 t190 t191).bind fun t217 => ((grid_Config_IsSecond.f kj7 t185 t186 t187 t188 t189 t190 t191 t217).bind fun t218 => (if t218 = true then ((grid_Config_IsFirst.f kj7 t185 t186 t187 t188 t189 t190 t191 0).bind fun t219 => (if t219 = true then (some false) else ((grid_Config_IsSecond.f kj7 t185 t186 t187 t188 t189 t190 t191 0).bind fun t220 => (some (!t220))))) else (some false)))) else (some false))) = some r := H
        have A85:=K_ A850
        clear A850
        replace H := Option.bind_eq_some_iff.mp H
        obtain ⟨t216, A860, H⟩ := H
        replace H : (if t216 = true then ((grid_Config_All.f kj7 t185 t186 t187 t188 t189 t190 t191).bind fun t217 => ((grid_Config_IsSecond.f kj7 t185 t186 t187 t188 t189 t190 t191 t217).bind fun t218 => (if t218 = true then ((grid_Config_IsFirst.f kj7 t185 t186 t187 t188 t189 t190 t191 0).bind fun t219 => (if t219 = true then (some false) else ((grid_Config_IsSecond.f kj7 t185 t186 t187 t188 t189 t190 t191 0).bind fun t220 => (some (!t220))))) else (some false)))) else (some false)) = some r := H
        have A86:=K_ A860
        clear A860
        by_cases c87 : t216 = true
        ·
         subst c87
         have H1 : ((grid_Config_All.f kj7 t185 t186 t187 t188 t189 t190 t191).bind fun t217 => ((grid_Config_IsSecond.f kj7 t185 t186 t187 t188 t189 t190 t191 t217).bind fun t218 => (if t218 = true then ((grid_Config_IsFirst.f kj7 t185 t186 t187 t188 t189 t190 t191 0).bind fun t219 => (if t219 = true then (some false) else ((grid_Config_IsSecond.f kj7 t185 t186 t187 t188 t189 t190 t191 0).bind fun t220 => (some (!t220))))) else (some false)))) = some r := by rw [if_pos rfl] at H; exact H
         clear H
         have H:=H1
         clear H1
         replace H := Option.bind_eq_some_iff.mp H
         obtain ⟨t217, A880, H⟩ := H
         replace H : ((grid_Config_IsSecond.f kj7 t185 t186 t187 t188 t189 t190 t191 t217).bind fun t218 => (if t218 = true then ((grid_Config_IsFirst.f kj7 t185 t186 t187 t188 t189 t190 t191 0).bind fun t219 => (if t219 = true then (some false) else ((grid_Config_IsSecond.f kj7 t185 t186 t187 t188 t189 t190 t191 0).bind fun t220 => (some (!t220))))) else (some false))) = some r := H
         have A88:=K_ A880
         clear A880
         replace H := Option.bind_eq_some_iff.mp H
         obtain ⟨t218, A890, H⟩ := H
         replace H : (if t218 = true then ((grid_Config_IsFirst.f kj7 t185 t186 t187 t188 t189 t190 t191 0).bind fun t219 => (if t219 = true then (some false) else ((grid_Config_IsSecond.f kj7 t185 t186 t187 t188 t189 t190 t191 0).bind fun t220 => (some (!t220))))) else (some false)) = some r := H
         have A89:=K_ A890
         clear A890
         by_cases c90 : t218 = true
         ·
          subst c90
          have H1 : ((grid_Config_IsFirst.f kj7 t185 t186 t187 t188 t189 t190 t191 0).bind fun t219 => (if t219 = true then (some false) else ((grid_Config_IsSecond.f kj7 t185 t186 t187 t188 t189 t190 t191 0).bind fun t220 => (some (!t220))))) = some r := by rw [if_pos rfl] at H; exact H
          clear H
          have H:=H1
          clear H1
          replace H := Option.bind_eq_some_iff.mp H
          obtain ⟨t219, A910, H⟩ := H
          replace H : (if t219 = true then (some false) else ((grid_Config_IsSecond.f kj7 t185 t186 t187 t188 t189 t190 t191 0).bind fun t220 => (some (!t220)))) = some r := H
          have A91:=K_ A910
          clear A910
          by_cases c92 : t219 = true
          ·
           subst c92
           have H1 : (some false) = some r := by rw [if_pos rfl] at H; exact H
           clear H
           have H:=H1
           clear H1
           obtain rfl := Option.some.inj H
           exact absurd hr_ (by decide)
          ·
           replace c92 := Bool.eq_false_iff.mpr c92
           subst c92
           have H1 : ((grid_Config_IsSecond.f kj7 t185 t186 t187 t188 t189 t190 t191 0).bind fun t220 => (some (!t220))) = some r := by rw [if_neg (show ¬ (false = true) by decide)] at H; exact H
           clear H
           have H:=H1
           clear H1
           replace H := Option.bind_eq_some_iff.mp H
           obtain ⟨t220, A930, H⟩ := H
           replace H : (some (!t220)) = some r := H
           have A93:=K_ A930
           clear A930
           obtain rfl := Option.some.inj H
           clear hr_
           try go_wp2
           have n0_:=K_ (bD_ BK176.out)
           have n1_:=K_ (bD_ BK192.out)
           have n2_:=K_ (pD_ HB.out)
           clear BK176
           clear BK192
           clear HB
           have BK176:=n0_
           have BK192:=n1_
           have HB:=n2_
           clear n0_ n1_ n2_
           refine start_ (n := 47) (S := fun w' => w'.cell? ⟨gb192, 0, none⟩ = some (.int .i64 t185) ∧ w'.cell? ⟨gb192, 1, none⟩ = some (.int .i64 t186) ∧ w'.cell? ⟨gb192, 2, none⟩ = some (.int .u32 t187) ∧ w'.cell? ⟨gb192, 3, none⟩ = some (.int .i64 t188) ∧ w'.cell? ⟨gb192, 4, none⟩ = some (.int .i64 t189) ∧ w'.cell? ⟨gb192, 5, none⟩ = some (.int .i64 t190) ∧ w'.cell? ⟨gb192, 6, none⟩ = some (.int .i64 t191)) (ds := []) qm27 (by kernel_rfl) rfl rfl ⟨(blk_cell BK192.out 0).trans rfl, (blk_cell BK192.out 1).trans rfl, (blk_cell BK192.out 2).trans rfl, (blk_cell BK192.out 3).trans rfl, (blk_cell BK192.out 4).trans rfl, (blk_cell BK192.out 5).trans rfl, (blk_cell BK192.out 6).trans rfl⟩ (fun hHeld => ?_); refine with_tabW chatelainelaw07_GridQuorums.tab7 chatelainelaw07_GridQuorums.bits7 (fun HT_ HW_ => ?_)
           generalize wc.drew = w94 at BK176 BK192 HB hHeld ⊢
           refine pure_ (i := 1) (N := some 35) (v := ?_) (a' := ?_) qm28 rfl rfl (any_of HT_.out (by kernel_rfl)) (fun _ _ _ h => h) (Or.inl ⟨by rfl, ?_⟩) ?_ ?_
           rotate_left
           ·
            intro w'
            go_simp
            with_reducible rfl
           rotate_left
           ·
            simp only [Act.put, e1_, e2_, e3_, i64_w, i32_w]
            rfl
           refine take_ (i := 0) (N := some 34) (v := ?_) (a' := ?_) qm29 rfl rfl (take_ofW HT_.out HW_.out (by kernel_rfl)) (fun _ _ _ h => h) (Or.inl ⟨by rfl, ?_⟩) hHeld ?_ ?_
           rotate_left
           ·
            rintro w' ⟨s0, s1, s2, s3, s4, s5, s6⟩
            go_simp
            with_reducible rfl
           rotate_left
           ·
            simp only [Act.put, e1_, e2_, e3_, i64_w, i32_w]
            rfl
           refine one_ (i := 2) (N := some 36) qm30 rfl rfl (one_of HT_.out (by kernel_rfl)) (by decide) (fun K hK => ?_)
           refine goes_ Try.func31 (by kernel_rfl) rfl #[.agg #[.int .i64 t185, .int .i64 t186, .int .u32 t187, .int .i64 t188, .int .i64 t189, .int .i64 t190, .int .i64 t191], .int .u32 a1] (by rfl) rfl rfl (by (try simp only [List.map_toArray, List.map_cons, List.map_nil]); first|done|rfl|(simp only [List.length_drop, List.length_take]; rfl)) ?_
           with_reducible refine (grid_Config_IsFirst.calls kj7 t185 t186 t187 t188 t189 t190 t191 a1 false _ A34.out).mono ?_
           rintro e w95 ⟨rfl, hb⟩
           refine ⟨_, rfl, ?_⟩
           have n0_:=K_ (blk_below (g := gb176) (o := .cells #[.int .i64 t178, .int .i64 t179, .int .u32 t180, .int .i64 t181, .int .i64 t182, .int .i64 t183, .int .i64 t184] 52 (0, 0)) (by (with_reducible repeat (first|refine bN_ ?_ _|refine bD_ ?_|refine bA_ ?_ _)); exact BK176.out) hb)
           have n1_:=K_ (blk_below (g := gb192) (o := .cells #[.int .i64 t185, .int .i64 t186, .int .u32 t187, .int .i64 t188, .int .i64 t189, .int .i64 t190, .int .i64 t191] 56 (0, 0)) (by (with_reducible repeat (first|refine bN_ ?_ _|refine bD_ ?_|refine bA_ ?_ _)); exact BK192.out) hb)
           have n2_:=K_ (below_step (by repeat (first|(with_reducible first|exact HB.out|apply pA_|apply pN_|apply pD_|refine bS_ ?_ GE176.out|refine bS_ ?_ GE192.out)|exact HB.out)) hb)
           clear BK176
           clear BK192
           clear HB
           have BK176:=n0_
           have BK192:=n1_
           have HB:=n2_
           clear n0_ n1_ n2_
           (try clear hb)
           (try clear hb2)
           (try clear hk)
           (try clear hi)
           refine hK.out _ _ ⟨(blk_cell BK192.out 0).trans rfl, (blk_cell BK192.out 1).trans rfl, (blk_cell BK192.out 2).trans rfl, (blk_cell BK192.out 3).trans rfl, (blk_cell BK192.out 4).trans rfl, (blk_cell BK192.out 5).trans rfl, (blk_cell BK192.out 6).trans rfl⟩ (fun hHeld => ?_)
           clear hK K
           refine norm_ (a' := ?_) ?_ ?_
           rotate_left
           ·
            show Act.put _ (some 36) _ = _
            simp only [Act.put, e1_, e2_, e3_, i64_w, i32_w]
            rfl
           refine pure_ (i := 3) (N := some 37) (v := ?_) (a' := ?_) qm31 rfl rfl (any_of HT_.out (by kernel_rfl)) (fun _ _ _ h => h) (Or.inl ⟨by rfl, ?_⟩) ?_ ?_
           rotate_left
           ·
            intro w'
            go_simp
            with_reducible rfl
           rotate_left
           ·
            simp only [Act.put, e1_, e2_, e3_, i64_w, i32_w]
            rfl
           refine pure_ (i := 4) (N := some 38) (v := ?_) (a' := ?_) qm32 rfl rfl (any_of HT_.out (by kernel_rfl)) (fun _ _ _ h => h) (Or.inl ⟨by rfl, ?_⟩) ?_ ?_
           rotate_left
           ·
            intro w'
            go_simp
            with_reducible rfl
           rotate_left
           ·
            simp only [Act.put, e1_, e2_, e3_, i64_w, i32_w]
            rfl
           refine pure_ (i := 5) (N := some 39) (v := undef) (a' := ?_) qm78 rfl rfl (any_of HT_.out (by kernel_rfl)) (fun _ _ _ h => h) (Or.inr ⟨by rfl, rfl⟩) ?_ ?_
           rotate_left
           ·
            simp only [Act.put, e1_, e2_, e3_, i64_w, i32_w]
            rfl
           refine pure_ (i := 6) (N := some 40) (v := undef) (a' := ?_) qm79 rfl rfl (any_of HT_.out (by kernel_rfl)) (fun _ _ _ h => h) (Or.inr ⟨by rfl, rfl⟩) ?_ ?_
           rotate_left
           ·
            simp only [Act.put, e1_, e2_, e3_, i64_w, i32_w]
            rfl
           refine pure_ (i := 7) (N := some 41) (v := undef) (a' := ?_) qm80 rfl rfl (any_of HT_.out (by kernel_rfl)) (fun _ _ _ h => h) (Or.inr ⟨by rfl, rfl⟩) ?_ ?_
           rotate_left
           ·
            simp only [Act.put, e1_, e2_, e3_, i64_w, i32_w]
            rfl
           refine pure_ (i := 8) (N := some 42) (v := undef) (a' := ?_) qm36 rfl rfl (any_of HT_.out (by kernel_rfl)) (fun _ _ _ h => h) (Or.inr ⟨by rfl, rfl⟩) ?_ ?_
           rotate_left
           ·
            simp only [Act.put, e1_, e2_, e3_, i64_w, i32_w]
            rfl
           refine pure_ (i := 9) (N := some 43) (v := undef) (a' := ?_) qm37 rfl rfl (any_of HT_.out (by kernel_rfl)) (fun _ _ _ h => h) (Or.inr ⟨by rfl, rfl⟩) ?_ ?_
           rotate_left
           ·
            simp only [Act.put, e1_, e2_, e3_, i64_w, i32_w]
            rfl
           refine pure_ (i := 10) (N := some 44) (v := ?_) (a' := ?_) qm38 rfl rfl (any_of HT_.out (by kernel_rfl)) (fun _ _ _ h => h) (Or.inl ⟨by rfl, ?_⟩) ?_ ?_
           rotate_left
           ·
            intro w'
            go_simp
            with_reducible rfl
           rotate_left
           ·
            simp only [Act.put, e1_, e2_, e3_, i64_w, i32_w]
            rfl
           refine pure_ (i := 11) (N := some 45) (v := ?_) (a' := ?_) qm39 rfl rfl (any_of HT_.out (by kernel_rfl)) (fun _ _ _ h => h) (Or.inl ⟨by rfl, ?_⟩) ?_ ?_
           rotate_left
           ·
            intro w'
            go_simp
            with_reducible rfl
           rotate_left
           ·
            simp only [Act.put, e1_, e2_, e3_, i64_w, i32_w]
            rfl
           refine pure_ (i := 13) (N := some 47) (v := ?_) (a' := ?_) qm40 rfl rfl (any_of HT_.out (by kernel_rfl)) (fun _ _ _ h => h) (Or.inl ⟨by rfl, ?_⟩) ?_ ?_
           rotate_left
           ·
            intro w'
            go_simp
            with_reducible rfl
           rotate_left
           ·
            simp only [Act.put, e1_, e2_, e3_, i64_w, i32_w]
            rfl
           refine take_ (i := 12) (N := some 46) (v := ?_) (a' := ?_) qm41 rfl rfl (take_ofW HT_.out HW_.out (by kernel_rfl)) (fun _ _ _ h => h) (Or.inl ⟨by rfl, ?_⟩) hHeld ?_ ?_
           rotate_left
           ·
            rintro w' ⟨s0, s1, s2, s3, s4, s5, s6⟩
            go_simp
            with_reducible rfl
           rotate_left
           ·
            simp only [Act.put, e1_, e2_, e3_, i64_w, i32_w]
            rfl
           refine one_ (i := 14) (N := some 48) qm42 rfl rfl (one_of HT_.out (by kernel_rfl)) (by decide) (fun K hK => ?_)
           refine goes_ Try.func33 (by kernel_rfl) rfl #[.agg #[.int .i64 t185, .int .i64 t186, .int .u32 t187, .int .i64 t188, .int .i64 t189, .int .i64 t190, .int .i64 t191], .int .u32 a1] (by rfl) rfl rfl (by (try simp only [List.map_toArray, List.map_cons, List.map_nil]); first|done|rfl|(simp only [List.length_drop, List.length_take]; rfl)) ?_
           with_reducible refine (grid_Config_IsSecond.calls kj7 t185 t186 t187 t188 t189 t190 t191 a1 true _ A81.out).mono ?_
           rintro e w96 ⟨rfl, hb⟩
           refine ⟨_, rfl, ?_⟩
           have n0_:=K_ (blk_below (g := gb176) (o := .cells #[.int .i64 t178, .int .i64 t179, .int .u32 t180, .int .i64 t181, .int .i64 t182, .int .i64 t183, .int .i64 t184] 52 (0, 0)) (by (with_reducible repeat (first|refine bN_ ?_ _|refine bD_ ?_|refine bA_ ?_ _)); exact BK176.out) hb)
           have n1_:=K_ (blk_below (g := gb192) (o := .cells #[.int .i64 t185, .int .i64 t186, .int .u32 t187, .int .i64 t188, .int .i64 t189, .int .i64 t190, .int .i64 t191] 56 (0, 0)) (by (with_reducible repeat (first|refine bN_ ?_ _|refine bD_ ?_|refine bA_ ?_ _)); exact BK192.out) hb)
           have n2_:=K_ (below_step (by repeat (first|(with_reducible first|exact HB.out|apply pA_|apply pN_|apply pD_|refine bS_ ?_ GE176.out|refine bS_ ?_ GE192.out)|exact HB.out)) hb)
           clear BK176
           clear BK192
           clear HB
           have BK176:=n0_
           have BK192:=n1_
           have HB:=n2_
           clear n0_ n1_ n2_
           (try clear hb)
           (try clear hb2)
           (try clear hk)
           (try clear hi)
           refine hK.out _ _ ⟨(blk_cell BK192.out 0).trans rfl, (blk_cell BK192.out 1).trans rfl, (blk_cell BK192.out 2).trans rfl, (blk_cell BK192.out 3).trans rfl, (blk_cell BK192.out 4).trans rfl, (blk_cell BK192.out 5).trans rfl, (blk_cell BK192.out 6).trans rfl⟩ (fun hHeld => ?_)
           clear hK K
           refine norm_ (a' := ?_) ?_ ?_
           rotate_left
           ·
            show Act.put _ (some 48) _ = _
            simp only [Act.put, e1_, e2_, e3_, i64_w, i32_w]
            rfl
           refine pure_ (i := 15) (N := some 49) (v := ?_) (a' := ?_) qm43 rfl rfl (any_of HT_.out (by kernel_rfl)) (fun _ _ _ h => h) (Or.inl ⟨by rfl, ?_⟩) ?_ ?_
           rotate_left
           ·
            intro w'
            go_simp
            with_reducible rfl
           rotate_left
           ·
            simp only [Act.put, e1_, e2_, e3_, i64_w, i32_w]
            rfl
           refine pure_ (i := 16) (N := some 50) (v := ?_) (a' := ?_) qm44 rfl rfl (any_of HT_.out (by kernel_rfl)) (fun _ _ _ h => h) (Or.inl ⟨by rfl, ?_⟩) ?_ ?_
           rotate_left
           ·
            intro w'
            go_simp
            with_reducible rfl
           rotate_left
           ·
            simp only [Act.put, e1_, e2_, e3_, i64_w, i32_w]
            rfl
           refine pure_ (i := 18) (N := some 52) (v := ?_) (a' := ?_) qm45 rfl rfl (any_of HT_.out (by kernel_rfl)) (fun _ _ _ h => h) (Or.inl ⟨by rfl, ?_⟩) ?_ ?_
           rotate_left
           ·
            intro w'
            go_simp
            with_reducible rfl
           rotate_left
           ·
            simp only [Act.put, e1_, e2_, e3_, i64_w, i32_w]
            rfl
           refine pure_ (i := 19) (N := some 53) (v := ?_) (a' := ?_) qm46 rfl rfl (any_of HT_.out (by kernel_rfl)) (fun _ _ _ h => h) (Or.inl ⟨by rfl, ?_⟩) ?_ ?_
           rotate_left
           ·
            intro w'
            go_simp
            with_reducible rfl
           rotate_left
           ·
            simp only [Act.put, e1_, e2_, e3_, i64_w, i32_w]
            rfl
           refine pure_ (i := 20) (N := some 54) (v := ?_) (a' := ?_) qm47 rfl rfl (any_of HT_.out (by kernel_rfl)) (fun _ _ _ h => h) (Or.inl ⟨by rfl, ?_⟩) ?_ ?_
           rotate_left
           ·
            intro w'
            go_simp
            with_reducible rfl
           rotate_left
           ·
            simp only [Act.put, e1_, e2_, e3_, i64_w, i32_w]
            rfl
           refine take_ (i := 17) (N := some 51) (v := ?_) (a' := ?_) qm48 rfl rfl (take_ofW HT_.out HW_.out (by kernel_rfl)) (fun _ _ _ h => h) (Or.inl ⟨by rfl, ?_⟩) hHeld ?_ ?_
           rotate_left
           ·
            rintro w' ⟨s0, s1, s2, s3, s4, s5, s6⟩
            go_simp
            with_reducible rfl
           rotate_left
           ·
            simp only [Act.put, e1_, e2_, e3_, i64_w, i32_w]
            rfl
           refine one_ (i := 21) (N := some 55) qm49 rfl rfl (one_of HT_.out (by kernel_rfl)) (by decide) (fun K hK => ?_)
           refine goes_ Try.func33 (by kernel_rfl) rfl #[.agg #[.int .i64 t185, .int .i64 t186, .int .u32 t187, .int .i64 t188, .int .i64 t189, .int .i64 t190, .int .i64 t191], .int .u32 (Go.bits .or .u32 a1 a2)] (by rfl) rfl rfl (by (try simp only [List.map_toArray, List.map_cons, List.map_nil]); first|done|rfl|(simp only [List.length_drop, List.length_take]; rfl)) ?_
           with_reducible refine (grid_Config_IsSecond.calls kj7 t185 t186 t187 t188 t189 t190 t191 (Go.bits .or .u32 a1 a2) true _ A83.out).mono ?_
           rintro e w97 ⟨rfl, hb⟩
           refine ⟨_, rfl, ?_⟩
           have n0_:=K_ (blk_below (g := gb176) (o := .cells #[.int .i64 t178, .int .i64 t179, .int .u32 t180, .int .i64 t181, .int .i64 t182, .int .i64 t183, .int .i64 t184] 52 (0, 0)) (by (with_reducible repeat (first|refine bN_ ?_ _|refine bD_ ?_|refine bA_ ?_ _)); exact BK176.out) hb)
           have n1_:=K_ (blk_below (g := gb192) (o := .cells #[.int .i64 t185, .int .i64 t186, .int .u32 t187, .int .i64 t188, .int .i64 t189, .int .i64 t190, .int .i64 t191] 56 (0, 0)) (by (with_reducible repeat (first|refine bN_ ?_ _|refine bD_ ?_|refine bA_ ?_ _)); exact BK192.out) hb)
           have n2_:=K_ (below_step (by repeat (first|(with_reducible first|exact HB.out|apply pA_|apply pN_|apply pD_|refine bS_ ?_ GE176.out|refine bS_ ?_ GE192.out)|exact HB.out)) hb)
           clear BK176
           clear BK192
           clear HB
           have BK176:=n0_
           have BK192:=n1_
           have HB:=n2_
           clear n0_ n1_ n2_
           (try clear hb)
           (try clear hb2)
           (try clear hk)
           (try clear hi)
           refine hK.out _ _ ⟨(blk_cell BK192.out 0).trans rfl, (blk_cell BK192.out 1).trans rfl, (blk_cell BK192.out 2).trans rfl, (blk_cell BK192.out 3).trans rfl, (blk_cell BK192.out 4).trans rfl, (blk_cell BK192.out 5).trans rfl, (blk_cell BK192.out 6).trans rfl⟩ (fun hHeld => ?_)
           clear hK K
           refine norm_ (a' := ?_) ?_ ?_
           rotate_left
           ·
            show Act.put _ (some 55) _ = _
            simp only [Act.put, e1_, e2_, e3_, i64_w, i32_w]
            rfl
           refine pure_ (i := 22) (N := some 56) (v := ?_) (a' := ?_) qm50 rfl rfl (any_of HT_.out (by kernel_rfl)) (fun _ _ _ h => h) (Or.inl ⟨by rfl, ?_⟩) ?_ ?_
           rotate_left
           ·
            intro w'
            go_simp
            with_reducible rfl
           rotate_left
           ·
            simp only [Act.put, e1_, e2_, e3_, i64_w, i32_w]
            rfl
           refine pure_ (i := 23) (N := some 57) (v := ?_) (a' := ?_) qm51 rfl rfl (any_of HT_.out (by kernel_rfl)) (fun _ _ _ h => h) (Or.inl ⟨by rfl, ?_⟩) ?_ ?_
           rotate_left
           ·
            intro w'
            go_simp
            with_reducible rfl
           rotate_left
           ·
            simp only [Act.put, e1_, e2_, e3_, i64_w, i32_w]
            rfl
           refine pure_ (i := 24) (N := some 58) (v := ?_) (a' := ?_) qm52 rfl rfl (any_of HT_.out (by kernel_rfl)) (fun _ _ _ h => h) (Or.inl ⟨by rfl, ?_⟩) ?_ ?_
           rotate_left
           ·
            intro w'
            go_simp
            with_reducible rfl
           rotate_left
           ·
            simp only [Act.put, e1_, e2_, e3_, i64_w, i32_w]
            rfl
           refine take_ (i := 25) (N := some 59) (v := ?_) (a' := ?_) qm53 rfl rfl (take_ofW HT_.out HW_.out (by kernel_rfl)) (fun _ _ _ h => h) (Or.inl ⟨by rfl, ?_⟩) hHeld ?_ ?_
           rotate_left
           ·
            rintro w' ⟨s0, s1, s2, s3, s4, s5, s6⟩
            go_simp
            with_reducible rfl
           rotate_left
           ·
            simp only [Act.put, e1_, e2_, e3_, i64_w, i32_w]
            rfl
           refine take_ (i := 26) (N := some 60) (v := ?_) (a' := ?_) qm54 rfl rfl (take_ofW HT_.out HW_.out (by kernel_rfl)) (fun _ _ _ h => h) (Or.inl ⟨by rfl, ?_⟩) hHeld ?_ ?_
           rotate_left
           ·
            rintro w' ⟨s0, s1, s2, s3, s4, s5, s6⟩
            go_simp
            with_reducible rfl
           rotate_left
           ·
            simp only [Act.put, e1_, e2_, e3_, i64_w, i32_w]
            rfl
           refine one_ (i := 27) (N := some 61) qm55 rfl rfl (one_of HT_.out (by kernel_rfl)) (by decide) (fun K hK => ?_)
           refine goes_ Try.func34 (by kernel_rfl) rfl #[.agg #[.int .i64 t185, .int .i64 t186, .int .u32 t187, .int .i64 t188, .int .i64 t189, .int .i64 t190, .int .i64 t191]] (by rfl) rfl rfl (by (try simp only [List.map_toArray, List.map_cons, List.map_nil]); first|done|rfl|(simp only [List.length_drop, List.length_take]; rfl)) ?_
           with_reducible refine (grid_Config_All.calls kj7 t185 t186 t187 t188 t189 t190 t191 t215 _ A85.out).mono ?_
           rintro e w98 ⟨rfl, hb⟩
           refine ⟨_, rfl, ?_⟩
           have n0_:=K_ (blk_below (g := gb176) (o := .cells #[.int .i64 t178, .int .i64 t179, .int .u32 t180, .int .i64 t181, .int .i64 t182, .int .i64 t183, .int .i64 t184] 52 (0, 0)) (by (with_reducible repeat (first|refine bN_ ?_ _|refine bD_ ?_|refine bA_ ?_ _)); exact BK176.out) hb)
           have n1_:=K_ (blk_below (g := gb192) (o := .cells #[.int .i64 t185, .int .i64 t186, .int .u32 t187, .int .i64 t188, .int .i64 t189, .int .i64 t190, .int .i64 t191] 56 (0, 0)) (by (with_reducible repeat (first|refine bN_ ?_ _|refine bD_ ?_|refine bA_ ?_ _)); exact BK192.out) hb)
           have n2_:=K_ (below_step (by repeat (first|(with_reducible first|exact HB.out|apply pA_|apply pN_|apply pD_|refine bS_ ?_ GE176.out|refine bS_ ?_ GE192.out)|exact HB.out)) hb)
           clear BK176
           clear BK192
           clear HB
           have BK176:=n0_
           have BK192:=n1_
           have HB:=n2_
           clear n0_ n1_ n2_
           (try clear hb)
           (try clear hb2)
           (try clear hk)
           (try clear hi)
           refine hK.out _ _ ⟨(blk_cell BK192.out 0).trans rfl, (blk_cell BK192.out 1).trans rfl, (blk_cell BK192.out 2).trans rfl, (blk_cell BK192.out 3).trans rfl, (blk_cell BK192.out 4).trans rfl, (blk_cell BK192.out 5).trans rfl, (blk_cell BK192.out 6).trans rfl⟩ (fun hHeld => ?_)
           clear hK K
           refine norm_ (a' := ?_) ?_ ?_
           rotate_left
           ·
            show Act.put _ (some 61) _ = _
            simp only [Act.put, e1_, e2_, e3_, i64_w, i32_w]
            rfl
           refine one_ (i := 28) (N := some 62) qm56 rfl rfl (one_of HT_.out (by kernel_rfl)) (by decide) (fun K hK => ?_)
           refine goes_ Try.func31 (by kernel_rfl) rfl #[.agg #[.int .i64 t185, .int .i64 t186, .int .u32 t187, .int .i64 t188, .int .i64 t189, .int .i64 t190, .int .i64 t191], .int .u32 t215] (by rfl) rfl rfl (by (try simp only [List.map_toArray, List.map_cons, List.map_nil]); first|done|rfl|(simp only [List.length_drop, List.length_take]; rfl)) ?_
           with_reducible refine (grid_Config_IsFirst.calls kj7 t185 t186 t187 t188 t189 t190 t191 t215 true _ A86.out).mono ?_
           rintro e w99 ⟨rfl, hb⟩
           refine ⟨_, rfl, ?_⟩
           have n0_:=K_ (blk_below (g := gb176) (o := .cells #[.int .i64 t178, .int .i64 t179, .int .u32 t180, .int .i64 t181, .int .i64 t182, .int .i64 t183, .int .i64 t184] 52 (0, 0)) (by (with_reducible repeat (first|refine bN_ ?_ _|refine bD_ ?_|refine bA_ ?_ _)); exact BK176.out) hb)
           have n1_:=K_ (blk_below (g := gb192) (o := .cells #[.int .i64 t185, .int .i64 t186, .int .u32 t187, .int .i64 t188, .int .i64 t189, .int .i64 t190, .int .i64 t191] 56 (0, 0)) (by (with_reducible repeat (first|refine bN_ ?_ _|refine bD_ ?_|refine bA_ ?_ _)); exact BK192.out) hb)
           have n2_:=K_ (below_step (by repeat (first|(with_reducible first|exact HB.out|apply pA_|apply pN_|apply pD_|refine bS_ ?_ GE176.out|refine bS_ ?_ GE192.out)|exact HB.out)) hb)
           clear BK176
           clear BK192
           clear HB
           have BK176:=n0_
           have BK192:=n1_
           have HB:=n2_
           clear n0_ n1_ n2_
           (try clear hb)
           (try clear hb2)
           (try clear hk)
           (try clear hi)
           refine hK.out _ _ ⟨(blk_cell BK192.out 0).trans rfl, (blk_cell BK192.out 1).trans rfl, (blk_cell BK192.out 2).trans rfl, (blk_cell BK192.out 3).trans rfl, (blk_cell BK192.out 4).trans rfl, (blk_cell BK192.out 5).trans rfl, (blk_cell BK192.out 6).trans rfl⟩ (fun hHeld => ?_)
           clear hK K
           refine norm_ (a' := ?_) ?_ ?_
           rotate_left
           ·
            show Act.put _ (some 62) _ = _
            simp only [Act.put, e1_, e2_, e3_, i64_w, i32_w]
            rfl
           refine pure_ (i := 29) (N := some 63) (v := ?_) (a' := ?_) qm57 rfl rfl (any_of HT_.out (by kernel_rfl)) (fun _ _ _ h => h) (Or.inl ⟨by rfl, ?_⟩) ?_ ?_
           rotate_left
           ·
            intro w'
            go_simp
            with_reducible rfl
           rotate_left
           ·
            simp only [Act.put, e1_, e2_, e3_, i64_w, i32_w]
            rfl
           refine pure_ (i := 30) (N := some 64) (v := ?_) (a' := ?_) qm58 rfl rfl (any_of HT_.out (by kernel_rfl)) (fun _ _ _ h => h) (Or.inl ⟨by rfl, ?_⟩) ?_ ?_
           rotate_left
           ·
            intro w'
            go_simp
            with_reducible rfl
           rotate_left
           ·
            simp only [Act.put, e1_, e2_, e3_, i64_w, i32_w]
            rfl
           refine take_ (i := 31) (N := some 65) (v := ?_) (a' := ?_) qm59 rfl rfl (take_ofW HT_.out HW_.out (by kernel_rfl)) (fun _ _ _ h => h) (Or.inl ⟨by rfl, ?_⟩) hHeld ?_ ?_
           rotate_left
           ·
            rintro w' ⟨s0, s1, s2, s3, s4, s5, s6⟩
            go_simp
            with_reducible rfl
           rotate_left
           ·
            simp only [Act.put, e1_, e2_, e3_, i64_w, i32_w]
            rfl
           refine take_ (i := 32) (N := some 66) (v := ?_) (a' := ?_) qm60 rfl rfl (take_ofW HT_.out HW_.out (by kernel_rfl)) (fun _ _ _ h => h) (Or.inl ⟨by rfl, ?_⟩) hHeld ?_ ?_
           rotate_left
           ·
            rintro w' ⟨s0, s1, s2, s3, s4, s5, s6⟩
            go_simp
            with_reducible rfl
           rotate_left
           ·
            simp only [Act.put, e1_, e2_, e3_, i64_w, i32_w]
            rfl
           refine one_ (i := 33) (N := some 67) qm61 rfl rfl (one_of HT_.out (by kernel_rfl)) (by decide) (fun K hK => ?_)
           refine goes_ Try.func34 (by kernel_rfl) rfl #[.agg #[.int .i64 t185, .int .i64 t186, .int .u32 t187, .int .i64 t188, .int .i64 t189, .int .i64 t190, .int .i64 t191]] (by rfl) rfl rfl (by (try simp only [List.map_toArray, List.map_cons, List.map_nil]); first|done|rfl|(simp only [List.length_drop, List.length_take]; rfl)) ?_
           with_reducible refine (grid_Config_All.calls kj7 t185 t186 t187 t188 t189 t190 t191 t217 _ A88.out).mono ?_
           rintro e w100 ⟨rfl, hb⟩
           refine ⟨_, rfl, ?_⟩
           have n0_:=K_ (blk_below (g := gb176) (o := .cells #[.int .i64 t178, .int .i64 t179, .int .u32 t180, .int .i64 t181, .int .i64 t182, .int .i64 t183, .int .i64 t184] 52 (0, 0)) (by (with_reducible repeat (first|refine bN_ ?_ _|refine bD_ ?_|refine bA_ ?_ _)); exact BK176.out) hb)
           have n1_:=K_ (blk_below (g := gb192) (o := .cells #[.int .i64 t185, .int .i64 t186, .int .u32 t187, .int .i64 t188, .int .i64 t189, .int .i64 t190, .int .i64 t191] 56 (0, 0)) (by (with_reducible repeat (first|refine bN_ ?_ _|refine bD_ ?_|refine bA_ ?_ _)); exact BK192.out) hb)
           have n2_:=K_ (below_step (by repeat (first|(with_reducible first|exact HB.out|apply pA_|apply pN_|apply pD_|refine bS_ ?_ GE176.out|refine bS_ ?_ GE192.out)|exact HB.out)) hb)
           clear BK176
           clear BK192
           clear HB
           have BK176:=n0_
           have BK192:=n1_
           have HB:=n2_
           clear n0_ n1_ n2_
           (try clear hb)
           (try clear hb2)
           (try clear hk)
           (try clear hi)
           refine hK.out _ _ ⟨(blk_cell BK192.out 0).trans rfl, (blk_cell BK192.out 1).trans rfl, (blk_cell BK192.out 2).trans rfl, (blk_cell BK192.out 3).trans rfl, (blk_cell BK192.out 4).trans rfl, (blk_cell BK192.out 5).trans rfl, (blk_cell BK192.out 6).trans rfl⟩ (fun hHeld => ?_)
           clear hK K
           refine norm_ (a' := ?_) ?_ ?_
           rotate_left
           ·
            show Act.put _ (some 67) _ = _
            simp only [Act.put, e1_, e2_, e3_, i64_w, i32_w]
            rfl
           refine one_ (i := 34) (N := some 68) qm62 rfl rfl (one_of HT_.out (by kernel_rfl)) (by decide) (fun K hK => ?_)
           refine goes_ Try.func33 (by kernel_rfl) rfl #[.agg #[.int .i64 t185, .int .i64 t186, .int .u32 t187, .int .i64 t188, .int .i64 t189, .int .i64 t190, .int .i64 t191], .int .u32 t217] (by rfl) rfl rfl (by (try simp only [List.map_toArray, List.map_cons, List.map_nil]); first|done|rfl|(simp only [List.length_drop, List.length_take]; rfl)) ?_
           with_reducible refine (grid_Config_IsSecond.calls kj7 t185 t186 t187 t188 t189 t190 t191 t217 true _ A89.out).mono ?_
           rintro e w101 ⟨rfl, hb⟩
           refine ⟨_, rfl, ?_⟩
           have n0_:=K_ (blk_below (g := gb176) (o := .cells #[.int .i64 t178, .int .i64 t179, .int .u32 t180, .int .i64 t181, .int .i64 t182, .int .i64 t183, .int .i64 t184] 52 (0, 0)) (by (with_reducible repeat (first|refine bN_ ?_ _|refine bD_ ?_|refine bA_ ?_ _)); exact BK176.out) hb)
           have n1_:=K_ (blk_below (g := gb192) (o := .cells #[.int .i64 t185, .int .i64 t186, .int .u32 t187, .int .i64 t188, .int .i64 t189, .int .i64 t190, .int .i64 t191] 56 (0, 0)) (by (with_reducible repeat (first|refine bN_ ?_ _|refine bD_ ?_|refine bA_ ?_ _)); exact BK192.out) hb)
           have n2_:=K_ (below_step (by repeat (first|(with_reducible first|exact HB.out|apply pA_|apply pN_|apply pD_|refine bS_ ?_ GE176.out|refine bS_ ?_ GE192.out)|exact HB.out)) hb)
           clear BK176
           clear BK192
           clear HB
           have BK176:=n0_
           have BK192:=n1_
           have HB:=n2_
           clear n0_ n1_ n2_
           (try clear hb)
           (try clear hb2)
           (try clear hk)
           (try clear hi)
           refine hK.out _ _ ⟨(blk_cell BK192.out 0).trans rfl, (blk_cell BK192.out 1).trans rfl, (blk_cell BK192.out 2).trans rfl, (blk_cell BK192.out 3).trans rfl, (blk_cell BK192.out 4).trans rfl, (blk_cell BK192.out 5).trans rfl, (blk_cell BK192.out 6).trans rfl⟩ (fun hHeld => ?_)
           clear hK K
           refine norm_ (a' := ?_) ?_ ?_
           rotate_left
           ·
            show Act.put _ (some 68) _ = _
            simp only [Act.put, e1_, e2_, e3_, i64_w, i32_w]
            rfl
           refine pure_ (i := 35) (N := some 69) (v := ?_) (a' := ?_) qm63 rfl rfl (any_of HT_.out (by kernel_rfl)) (fun _ _ _ h => h) (Or.inl ⟨by rfl, ?_⟩) ?_ ?_
           rotate_left
           ·
            intro w'
            go_simp
            with_reducible rfl
           rotate_left
           ·
            simp only [Act.put, e1_, e2_, e3_, i64_w, i32_w]
            rfl
           refine pure_ (i := 36) (N := some 70) (v := ?_) (a' := ?_) qm64 rfl rfl (any_of HT_.out (by kernel_rfl)) (fun _ _ _ h => h) (Or.inl ⟨by rfl, ?_⟩) ?_ ?_
           rotate_left
           ·
            intro w'
            go_simp
            with_reducible rfl
           rotate_left
           ·
            simp only [Act.put, e1_, e2_, e3_, i64_w, i32_w]
            rfl
           refine take_ (i := 37) (N := some 71) (v := ?_) (a' := ?_) qm65 rfl rfl (take_ofW HT_.out HW_.out (by kernel_rfl)) (fun _ _ _ h => h) (Or.inl ⟨by rfl, ?_⟩) hHeld ?_ ?_
           rotate_left
           ·
            rintro w' ⟨s0, s1, s2, s3, s4, s5, s6⟩
            go_simp
            with_reducible rfl
           rotate_left
           ·
            simp only [Act.put, e1_, e2_, e3_, i64_w, i32_w]
            rfl
           refine one_ (i := 38) (N := some 72) qm66 rfl rfl (one_of HT_.out (by kernel_rfl)) (by decide) (fun K hK => ?_)
           refine goes_ Try.func31 (by kernel_rfl) rfl #[.agg #[.int .i64 t185, .int .i64 t186, .int .u32 t187, .int .i64 t188, .int .i64 t189, .int .i64 t190, .int .i64 t191], .int .u32 0] (by rfl) rfl rfl (by (try simp only [List.map_toArray, List.map_cons, List.map_nil]); first|done|rfl|(simp only [List.length_drop, List.length_take]; rfl)) ?_
           with_reducible refine (grid_Config_IsFirst.calls kj7 t185 t186 t187 t188 t189 t190 t191 0 false _ A91.out).mono ?_
           rintro e w102 ⟨rfl, hb⟩
           refine ⟨_, rfl, ?_⟩
           have n0_:=K_ (blk_below (g := gb176) (o := .cells #[.int .i64 t178, .int .i64 t179, .int .u32 t180, .int .i64 t181, .int .i64 t182, .int .i64 t183, .int .i64 t184] 52 (0, 0)) (by (with_reducible repeat (first|refine bN_ ?_ _|refine bD_ ?_|refine bA_ ?_ _)); exact BK176.out) hb)
           have n1_:=K_ (blk_below (g := gb192) (o := .cells #[.int .i64 t185, .int .i64 t186, .int .u32 t187, .int .i64 t188, .int .i64 t189, .int .i64 t190, .int .i64 t191] 56 (0, 0)) (by (with_reducible repeat (first|refine bN_ ?_ _|refine bD_ ?_|refine bA_ ?_ _)); exact BK192.out) hb)
           have n2_:=K_ (below_step (by repeat (first|(with_reducible first|exact HB.out|apply pA_|apply pN_|apply pD_|refine bS_ ?_ GE176.out|refine bS_ ?_ GE192.out)|exact HB.out)) hb)
           clear BK176
           clear BK192
           clear HB
           have BK176:=n0_
           have BK192:=n1_
           have HB:=n2_
           clear n0_ n1_ n2_
           (try clear hb)
           (try clear hb2)
           (try clear hk)
           (try clear hi)
           refine hK.out _ _ ⟨(blk_cell BK192.out 0).trans rfl, (blk_cell BK192.out 1).trans rfl, (blk_cell BK192.out 2).trans rfl, (blk_cell BK192.out 3).trans rfl, (blk_cell BK192.out 4).trans rfl, (blk_cell BK192.out 5).trans rfl, (blk_cell BK192.out 6).trans rfl⟩ (fun hHeld => ?_)
           clear hK K
           refine norm_ (a' := ?_) ?_ ?_
           rotate_left
           ·
            show Act.put _ (some 72) _ = _
            simp only [Act.put, e1_, e2_, e3_, i64_w, i32_w]
            rfl
           refine pure_ (i := 39) (N := some 73) (v := ?_) (a' := ?_) qm67 rfl rfl (any_of HT_.out (by kernel_rfl)) (fun _ _ _ h => h) (Or.inl ⟨by rfl, ?_⟩) ?_ ?_
           rotate_left
           ·
            intro w'
            go_simp
            with_reducible rfl
           rotate_left
           ·
            simp only [Act.put, e1_, e2_, e3_, i64_w, i32_w]
            rfl
           refine pure_ (i := 40) (N := some 74) (v := ?_) (a' := ?_) qm68 rfl rfl (any_of HT_.out (by kernel_rfl)) (fun _ _ _ h => h) (Or.inl ⟨by rfl, ?_⟩) ?_ ?_
           rotate_left
           ·
            intro w'
            go_simp
            with_reducible rfl
           rotate_left
           ·
            simp only [Act.put, e1_, e2_, e3_, i64_w, i32_w]
            rfl
           refine pure_ (i := 41) (N := some 75) (v := ?_) (a' := ?_) qm69 rfl rfl (any_of HT_.out (by kernel_rfl)) (fun _ _ _ h => h) (Or.inl ⟨by rfl, ?_⟩) ?_ ?_
           rotate_left
           ·
            intro w'
            go_simp
            with_reducible rfl
           rotate_left
           ·
            simp only [Act.put, e1_, e2_, e3_, i64_w, i32_w]
            rfl
           refine take_ (i := 42) (N := some 76) (v := ?_) (a' := ?_) qm70 rfl rfl (take_ofW HT_.out HW_.out (by kernel_rfl)) (fun _ _ _ h => h) (Or.inl ⟨by rfl, ?_⟩) hHeld ?_ ?_
           rotate_left
           ·
            rintro w' ⟨s0, s1, s2, s3, s4, s5, s6⟩
            go_simp
            with_reducible rfl
           rotate_left
           ·
            simp only [Act.put, e1_, e2_, e3_, i64_w, i32_w]
            rfl
           refine one_ (i := 43) (N := some 77) qm71 rfl rfl (one_of HT_.out (by kernel_rfl)) (by decide) (fun K hK => ?_)
           refine goes_ Try.func33 (by kernel_rfl) rfl #[.agg #[.int .i64 t185, .int .i64 t186, .int .u32 t187, .int .i64 t188, .int .i64 t189, .int .i64 t190, .int .i64 t191], .int .u32 0] (by rfl) rfl rfl (by (try simp only [List.map_toArray, List.map_cons, List.map_nil]); first|done|rfl|(simp only [List.length_drop, List.length_take]; rfl)) ?_
           with_reducible refine (grid_Config_IsSecond.calls kj7 t185 t186 t187 t188 t189 t190 t191 0 t220 _ A93.out).mono ?_
           rintro e w103 ⟨rfl, hb⟩
           refine ⟨_, rfl, ?_⟩
           have n0_:=K_ (blk_below (g := gb176) (o := .cells #[.int .i64 t178, .int .i64 t179, .int .u32 t180, .int .i64 t181, .int .i64 t182, .int .i64 t183, .int .i64 t184] 52 (0, 0)) (by (with_reducible repeat (first|refine bN_ ?_ _|refine bD_ ?_|refine bA_ ?_ _)); exact BK176.out) hb)
           have n1_:=K_ (blk_below (g := gb192) (o := .cells #[.int .i64 t185, .int .i64 t186, .int .u32 t187, .int .i64 t188, .int .i64 t189, .int .i64 t190, .int .i64 t191] 56 (0, 0)) (by (with_reducible repeat (first|refine bN_ ?_ _|refine bD_ ?_|refine bA_ ?_ _)); exact BK192.out) hb)
           have n2_:=K_ (below_step (by repeat (first|(with_reducible first|exact HB.out|apply pA_|apply pN_|apply pD_|refine bS_ ?_ GE176.out|refine bS_ ?_ GE192.out)|exact HB.out)) hb)
           clear BK176
           clear BK192
           clear HB
           have BK176:=n0_
           have BK192:=n1_
           have HB:=n2_
           clear n0_ n1_ n2_
           (try clear hb)
           (try clear hb2)
           (try clear hk)
           (try clear hi)
           refine hK.out _ _ ⟨(blk_cell BK192.out 0).trans rfl, (blk_cell BK192.out 1).trans rfl, (blk_cell BK192.out 2).trans rfl, (blk_cell BK192.out 3).trans rfl, (blk_cell BK192.out 4).trans rfl, (blk_cell BK192.out 5).trans rfl, (blk_cell BK192.out 6).trans rfl⟩ (fun hHeld => ?_)
           clear hK K
           refine norm_ (a' := ?_) ?_ ?_
           rotate_left
           ·
            show Act.put _ (some 77) _ = _
            simp only [Act.put, e1_, e2_, e3_, i64_w, i32_w]
            rfl
           refine pure_ (i := 44) (N := some 78) (v := ?_) (a' := ?_) qm72 rfl rfl (any_of HT_.out (by kernel_rfl)) (fun _ _ _ h => h) (Or.inl ⟨by rfl, ?_⟩) ?_ ?_
           rotate_left
           ·
            intro w'
            go_simp
            with_reducible rfl
           rotate_left
           ·
            simp only [Act.put, e1_, e2_, e3_, i64_w, i32_w]
            rfl
           refine pure_ (i := 45) (N := some 79) (v := ?_) (a' := ?_) qm73 rfl rfl (any_of HT_.out (by kernel_rfl)) (fun _ _ _ h => h) (Or.inl ⟨by rfl, ?_⟩) ?_ ?_
           rotate_left
           ·
            intro w'
            go_simp
            with_reducible rfl
           rotate_left
           ·
            simp only [Act.put, e1_, e2_, e3_, i64_w, i32_w]
            rfl
           refine pure_ (i := 46) (N := some 6) (v := ?_) (a' := ?_) qm74 rfl rfl (any_of HT_.out (by kernel_rfl)) (fun _ _ _ h => h) (Or.inl ⟨by rfl, ?_⟩) ?_ ?_
           rotate_left
           ·
            intro w'
            go_simp
            with_reducible rfl
           rotate_left
           ·
            simp only [Act.put, e1_, e2_, e3_, i64_w, i32_w]
            rfl
           refine done_ (done_of HT_.out (by kernel_rfl)) ?_
           try go_wp2
           go_ret
           exact ⟨by first|rfl|(simp [errW_none, errW_some] <;> rfl)|(simp [*, errW_none, errW_some] <;> rfl), by repeat (first|(with_reducible first|exact HB.out|apply pA_|apply pN_|apply pD_|refine bS_ ?_ GE176.out|refine bS_ ?_ GE192.out)|exact HB.out)⟩
         ·
          replace c90 := Bool.eq_false_iff.mpr c90
          subst c90
          have H1 : (some false) = some r := by rw [if_neg (show ¬ (false = true) by decide)] at H; exact H
          clear H
          have H:=H1
          clear H1
          obtain rfl := Option.some.inj H
          exact absurd hr_ (by decide)
        ·
         replace c87 := Bool.eq_false_iff.mpr c87
         subst c87
         have H1 : (some false) = some r := by rw [if_neg (show ¬ (false = true) by decide)] at H; exact H
         clear H
         have H:=H1
         clear H1
         obtain rfl := Option.some.inj H
         exact absurd hr_ (by decide)
       ·
        replace c84 := Bool.eq_false_iff.mpr c84
        subst c84
        have H1 : (some false) = some r := by rw [if_neg (show ¬ (false = true) by decide)] at H; exact H
        clear H
        have H:=H1
        clear H1
        obtain rfl := Option.some.inj H
        exact absurd hr_ (by decide)
      ·
       replace c82 := Bool.eq_false_iff.mpr c82
       subst c82
       have H1 : ((grid_Config_All.f kj7 t185 t186 t187 t188 t189 t190 t191).bind fun t221 => ((grid_Config_IsFirst.f kj7 t185 t186 t187 t188 t189 t190 t191 t221).bind fun t222 => (if t222 = true then ((grid_Config_All.f kj7 t185 t186 t187 t188 t189 t190 t191).bind fun t223 => ((grid_Config_IsSecond.f kj7 t185 t186 t187 t188 t189 t190 t191 t223).bind fun t224 => (if t224 = true then ((grid_Config_IsFirst.f kj7 t185 t186 t187 t188 t189 t190 t191 0).bind fun t225 => (if t225 = true then (some false) else ((grid_Config_IsSecond.f kj7 t185 t186 t187 t188 t189 t190 t191 0).bind fun t226 => (some (!t226))))) else (some false)))) else (some false)))) = some r := by rw [if_neg (show ¬ (false = true) by decide)] at H; exact H
       clear H
       have H:=H1
       clear H1
       replace H := Option.bind_eq_some_iff.mp H
       obtain ⟨t221, A1040, H⟩ := H
       replace H : ((grid_Config_IsFirst.f kj7 t185 t186 t187 t188 t189 t190 t191 t221).bind fun t222 => (if t222 = true then ((grid_Config_All.f kj7 t185 t186 t187 t188 t189 t190 t191).bind fun t223 => ((grid_Config_IsSecond.f kj7 t185 t186 t187 t188 t189 t190 t191 t223).bind fun t224 => (if t224 = true then ((grid_Config_IsFirst.f kj7 t185 t186 t187 t188 t189 t190 t191 0).bind fun t225 => (if t225 = true then (some false) else ((grid_Config_IsSecond.f kj7 t185 t186 t187 t188 t189 t190 t191 0).bind fun t226 => (some (!t226))))) else (some false)))) else (some false))) = some r := H
       have A104:=K_ A1040
       clear A1040
       replace H := Option.bind_eq_some_iff.mp H
       obtain ⟨t222, A1050, H⟩ := H
       replace H : (if t222 = true then ((grid_Config_All.f kj7 t185 t186 t187 t188 t189 t190 t191).bind fun t223 => ((grid_Config_IsSecond.f kj7 t185 t186 t187 t188 t189 t190 t191 t223).bind fun t224 => (if t224 = true then ((grid_Config_IsFirst.f kj7 t185 t186 t187 t188 t189 t190 t191 0).bind fun t225 => (if t225 = true then (some false) else ((grid_Config_IsSecond.f kj7 t185 t186 t187 t188 t189 t190 t191 0).bind fun t226 => (some (!t226))))) else (some false)))) else (some false)) = some r := H
       have A105:=K_ A1050
       clear A1050
       by_cases c106 : t222 = true
       ·
        subst c106
        have H1 : ((grid_Config_All.f kj7 t185 t186 t187 t188 t189 t190 t191).bind fun t223 => ((grid_Config_IsSecond.f kj7 t185 t186 t187 t188 t189 t190 t191 t223).bind fun t224 => (if t224 = true then ((grid_Config_IsFirst.f kj7 t185 t186 t187 t188 t189 t190 t191 0).bind fun t225 => (if t225 = true then (some false) else ((grid_Config_IsSecond.f kj7 t185 t186 t187 t188 t189 t190 t191 0).bind fun t226 => (some (!t226))))) else (some false)))) = some r := by rw [if_pos rfl] at H; exact H
        clear H
        have H:=H1
        clear H1
        replace H := Option.bind_eq_some_iff.mp H
        obtain ⟨t223, A1070, H⟩ := H
        replace H : ((grid_Config_IsSecond.f kj7 t185 t186 t187 t188 t189 t190 t191 t223).bind fun t224 => (if t224 = true then ((grid_Config_IsFirst.f kj7 t185 t186 t187 t188 t189 t190 t191 0).bind fun t225 => (if t225 = true then (some false) else ((grid_Config_IsSecond.f kj7 t185 t186 t187 t188 t189 t190 t191 0).bind fun t226 => (some (!t226))))) else (some false))) = some r := H
        have A107:=K_ A1070
        clear A1070
        replace H := Option.bind_eq_some_iff.mp H
        obtain ⟨t224, A1080, H⟩ := H
        replace H : (if t224 = true then ((grid_Config_IsFirst.f kj7 t185 t186 t187 t188 t189 t190 t191 0).bind fun t225 => (if t225 = true then (some false) else ((grid_Config_IsSecond.f kj7 t185 t186 t187 t188 t189 t190 t191 0).bind fun t226 => (some (!t226))))) else (some false)) = some r := H
        have A108:=K_ A1080
        clear A1080
        by_cases c109 : t224 = true
        ·
         subst c109
         have H1 : ((grid_Config_IsFirst.f kj7 t185 t186 t187 t188 t189 t190 t191 0).bind fun t225 => (if t225 = true then (some false) else ((grid_Config_IsSecond.f kj7 t185 t186 t187 t188 t189 t190 t191 0).bind fun t226 => (some (!t226))))) = some r := by rw [if_pos rfl] at H; exact H
         clear H
         have H:=H1
         clear H1
         replace H := Option.bind_eq_some_iff.mp H
         obtain ⟨t225, A1100, H⟩ := H
         replace H : (if t225 = true then (some false) else ((grid_Config_IsSecond.f kj7 t185 t186 t187 t188 t189 t190 t191 0).bind fun t226 => (some (!t226)))) = some r := H
         have A110:=K_ A1100
         clear A1100
         by_cases c111 : t225 = true
         ·
          subst c111
          have H1 : (some false) = some r := by rw [if_pos rfl] at H; exact H
          clear H
          have H:=H1
          clear H1
          obtain rfl := Option.some.inj H
          exact absurd hr_ (by decide)
         ·
          replace c111 := Bool.eq_false_iff.mpr c111
          subst c111
          have H1 : ((grid_Config_IsSecond.f kj7 t185 t186 t187 t188 t189 t190 t191 0).bind fun t226 => (some (!t226))) = some r := by rw [if_neg (show ¬ (false = true) by decide)] at H; exact H
          clear H
          have H:=H1
          clear H1
          replace H := Option.bind_eq_some_iff.mp H
          obtain ⟨t226, A1120, H⟩ := H
          replace H : (some (!t226)) = some r := H
          have A112:=K_ A1120
          clear A1120
          obtain rfl := Option.some.inj H
          clear hr_
          try go_wp2
          have n0_:=K_ (bD_ BK176.out)
          have n1_:=K_ (bD_ BK192.out)
          have n2_:=K_ (pD_ HB.out)
          clear BK176
          clear BK192
          clear HB
          have BK176:=n0_
          have BK192:=n1_
          have HB:=n2_
          clear n0_ n1_ n2_
          refine start_ (n := 47) (S := fun w' => w'.cell? ⟨gb192, 0, none⟩ = some (.int .i64 t185) ∧ w'.cell? ⟨gb192, 1, none⟩ = some (.int .i64 t186) ∧ w'.cell? ⟨gb192, 2, none⟩ = some (.int .u32 t187) ∧ w'.cell? ⟨gb192, 3, none⟩ = some (.int .i64 t188) ∧ w'.cell? ⟨gb192, 4, none⟩ = some (.int .i64 t189) ∧ w'.cell? ⟨gb192, 5, none⟩ = some (.int .i64 t190) ∧ w'.cell? ⟨gb192, 6, none⟩ = some (.int .i64 t191)) (ds := []) qm27 (by kernel_rfl) rfl rfl ⟨(blk_cell BK192.out 0).trans rfl, (blk_cell BK192.out 1).trans rfl, (blk_cell BK192.out 2).trans rfl, (blk_cell BK192.out 3).trans rfl, (blk_cell BK192.out 4).trans rfl, (blk_cell BK192.out 5).trans rfl, (blk_cell BK192.out 6).trans rfl⟩ (fun hHeld => ?_); refine with_tabW chatelainelaw07_GridQuorums.tab7 chatelainelaw07_GridQuorums.bits7 (fun HT_ HW_ => ?_)
          generalize wc.drew = w113 at BK176 BK192 HB hHeld ⊢
          refine pure_ (i := 1) (N := some 35) (v := ?_) (a' := ?_) qm28 rfl rfl (any_of HT_.out (by kernel_rfl)) (fun _ _ _ h => h) (Or.inl ⟨by rfl, ?_⟩) ?_ ?_
          rotate_left
          ·
           intro w'
           go_simp
           with_reducible rfl
          rotate_left
          ·
           simp only [Act.put, e1_, e2_, e3_, i64_w, i32_w]
           rfl
          refine take_ (i := 0) (N := some 34) (v := ?_) (a' := ?_) qm29 rfl rfl (take_ofW HT_.out HW_.out (by kernel_rfl)) (fun _ _ _ h => h) (Or.inl ⟨by rfl, ?_⟩) hHeld ?_ ?_
          rotate_left
          ·
           rintro w' ⟨s0, s1, s2, s3, s4, s5, s6⟩
           go_simp
           with_reducible rfl
          rotate_left
          ·
           simp only [Act.put, e1_, e2_, e3_, i64_w, i32_w]
           rfl
          refine one_ (i := 2) (N := some 36) qm30 rfl rfl (one_of HT_.out (by kernel_rfl)) (by decide) (fun K hK => ?_)
          refine goes_ Try.func31 (by kernel_rfl) rfl #[.agg #[.int .i64 t185, .int .i64 t186, .int .u32 t187, .int .i64 t188, .int .i64 t189, .int .i64 t190, .int .i64 t191], .int .u32 a1] (by rfl) rfl rfl (by (try simp only [List.map_toArray, List.map_cons, List.map_nil]); first|done|rfl|(simp only [List.length_drop, List.length_take]; rfl)) ?_
          with_reducible refine (grid_Config_IsFirst.calls kj7 t185 t186 t187 t188 t189 t190 t191 a1 false _ A34.out).mono ?_
          rintro e w114 ⟨rfl, hb⟩
          refine ⟨_, rfl, ?_⟩
          have n0_:=K_ (blk_below (g := gb176) (o := .cells #[.int .i64 t178, .int .i64 t179, .int .u32 t180, .int .i64 t181, .int .i64 t182, .int .i64 t183, .int .i64 t184] 52 (0, 0)) (by (with_reducible repeat (first|refine bN_ ?_ _|refine bD_ ?_|refine bA_ ?_ _)); exact BK176.out) hb)
          have n1_:=K_ (blk_below (g := gb192) (o := .cells #[.int .i64 t185, .int .i64 t186, .int .u32 t187, .int .i64 t188, .int .i64 t189, .int .i64 t190, .int .i64 t191] 56 (0, 0)) (by (with_reducible repeat (first|refine bN_ ?_ _|refine bD_ ?_|refine bA_ ?_ _)); exact BK192.out) hb)
          have n2_:=K_ (below_step (by repeat (first|(with_reducible first|exact HB.out|apply pA_|apply pN_|apply pD_|refine bS_ ?_ GE176.out|refine bS_ ?_ GE192.out)|exact HB.out)) hb)
          clear BK176
          clear BK192
          clear HB
          have BK176:=n0_
          have BK192:=n1_
          have HB:=n2_
          clear n0_ n1_ n2_
          (try clear hb)
          (try clear hb2)
          (try clear hk)
          (try clear hi)
          refine hK.out _ _ ⟨(blk_cell BK192.out 0).trans rfl, (blk_cell BK192.out 1).trans rfl, (blk_cell BK192.out 2).trans rfl, (blk_cell BK192.out 3).trans rfl, (blk_cell BK192.out 4).trans rfl, (blk_cell BK192.out 5).trans rfl, (blk_cell BK192.out 6).trans rfl⟩ (fun hHeld => ?_)
          clear hK K
          refine norm_ (a' := ?_) ?_ ?_
          rotate_left
          ·
           show Act.put _ (some 36) _ = _
           simp only [Act.put, e1_, e2_, e3_, i64_w, i32_w]
           rfl
          refine pure_ (i := 3) (N := some 37) (v := ?_) (a' := ?_) qm31 rfl rfl (any_of HT_.out (by kernel_rfl)) (fun _ _ _ h => h) (Or.inl ⟨by rfl, ?_⟩) ?_ ?_
          rotate_left
          ·
           intro w'
           go_simp
           with_reducible rfl
          rotate_left
          ·
           simp only [Act.put, e1_, e2_, e3_, i64_w, i32_w]
           rfl
          refine pure_ (i := 4) (N := some 38) (v := ?_) (a' := ?_) qm32 rfl rfl (any_of HT_.out (by kernel_rfl)) (fun _ _ _ h => h) (Or.inl ⟨by rfl, ?_⟩) ?_ ?_
          rotate_left
          ·
           intro w'
           go_simp
           with_reducible rfl
          rotate_left
          ·
           simp only [Act.put, e1_, e2_, e3_, i64_w, i32_w]
           rfl
          refine pure_ (i := 5) (N := some 39) (v := undef) (a' := ?_) qm78 rfl rfl (any_of HT_.out (by kernel_rfl)) (fun _ _ _ h => h) (Or.inr ⟨by rfl, rfl⟩) ?_ ?_
          rotate_left
          ·
           simp only [Act.put, e1_, e2_, e3_, i64_w, i32_w]
           rfl
          refine pure_ (i := 6) (N := some 40) (v := undef) (a' := ?_) qm79 rfl rfl (any_of HT_.out (by kernel_rfl)) (fun _ _ _ h => h) (Or.inr ⟨by rfl, rfl⟩) ?_ ?_
          rotate_left
          ·
           simp only [Act.put, e1_, e2_, e3_, i64_w, i32_w]
           rfl
          refine pure_ (i := 7) (N := some 41) (v := undef) (a' := ?_) qm80 rfl rfl (any_of HT_.out (by kernel_rfl)) (fun _ _ _ h => h) (Or.inr ⟨by rfl, rfl⟩) ?_ ?_
          rotate_left
          ·
           simp only [Act.put, e1_, e2_, e3_, i64_w, i32_w]
           rfl
          refine pure_ (i := 8) (N := some 42) (v := undef) (a' := ?_) qm36 rfl rfl (any_of HT_.out (by kernel_rfl)) (fun _ _ _ h => h) (Or.inr ⟨by rfl, rfl⟩) ?_ ?_
          rotate_left
          ·
           simp only [Act.put, e1_, e2_, e3_, i64_w, i32_w]
           rfl
          refine pure_ (i := 9) (N := some 43) (v := undef) (a' := ?_) qm37 rfl rfl (any_of HT_.out (by kernel_rfl)) (fun _ _ _ h => h) (Or.inr ⟨by rfl, rfl⟩) ?_ ?_
          rotate_left
          ·
           simp only [Act.put, e1_, e2_, e3_, i64_w, i32_w]
           rfl
          refine pure_ (i := 10) (N := some 44) (v := ?_) (a' := ?_) qm38 rfl rfl (any_of HT_.out (by kernel_rfl)) (fun _ _ _ h => h) (Or.inl ⟨by rfl, ?_⟩) ?_ ?_
          rotate_left
          ·
           intro w'
           go_simp
           with_reducible rfl
          rotate_left
          ·
           simp only [Act.put, e1_, e2_, e3_, i64_w, i32_w]
           rfl
          refine pure_ (i := 11) (N := some 45) (v := ?_) (a' := ?_) qm39 rfl rfl (any_of HT_.out (by kernel_rfl)) (fun _ _ _ h => h) (Or.inl ⟨by rfl, ?_⟩) ?_ ?_
          rotate_left
          ·
           intro w'
           go_simp
           with_reducible rfl
          rotate_left
          ·
           simp only [Act.put, e1_, e2_, e3_, i64_w, i32_w]
           rfl
          refine pure_ (i := 13) (N := some 47) (v := ?_) (a' := ?_) qm40 rfl rfl (any_of HT_.out (by kernel_rfl)) (fun _ _ _ h => h) (Or.inl ⟨by rfl, ?_⟩) ?_ ?_
          rotate_left
          ·
           intro w'
           go_simp
           with_reducible rfl
          rotate_left
          ·
           simp only [Act.put, e1_, e2_, e3_, i64_w, i32_w]
           rfl
          refine take_ (i := 12) (N := some 46) (v := ?_) (a' := ?_) qm41 rfl rfl (take_ofW HT_.out HW_.out (by kernel_rfl)) (fun _ _ _ h => h) (Or.inl ⟨by rfl, ?_⟩) hHeld ?_ ?_
          rotate_left
          ·
           rintro w' ⟨s0, s1, s2, s3, s4, s5, s6⟩
           go_simp
           with_reducible rfl
          rotate_left
          ·
           simp only [Act.put, e1_, e2_, e3_, i64_w, i32_w]
           rfl
          refine one_ (i := 14) (N := some 48) qm42 rfl rfl (one_of HT_.out (by kernel_rfl)) (by decide) (fun K hK => ?_)
          refine goes_ Try.func33 (by kernel_rfl) rfl #[.agg #[.int .i64 t185, .int .i64 t186, .int .u32 t187, .int .i64 t188, .int .i64 t189, .int .i64 t190, .int .i64 t191], .int .u32 a1] (by rfl) rfl rfl (by (try simp only [List.map_toArray, List.map_cons, List.map_nil]); first|done|rfl|(simp only [List.length_drop, List.length_take]; rfl)) ?_
          with_reducible refine (grid_Config_IsSecond.calls kj7 t185 t186 t187 t188 t189 t190 t191 a1 false _ A81.out).mono ?_
          rintro e w115 ⟨rfl, hb⟩
          refine ⟨_, rfl, ?_⟩
          have n0_:=K_ (blk_below (g := gb176) (o := .cells #[.int .i64 t178, .int .i64 t179, .int .u32 t180, .int .i64 t181, .int .i64 t182, .int .i64 t183, .int .i64 t184] 52 (0, 0)) (by (with_reducible repeat (first|refine bN_ ?_ _|refine bD_ ?_|refine bA_ ?_ _)); exact BK176.out) hb)
          have n1_:=K_ (blk_below (g := gb192) (o := .cells #[.int .i64 t185, .int .i64 t186, .int .u32 t187, .int .i64 t188, .int .i64 t189, .int .i64 t190, .int .i64 t191] 56 (0, 0)) (by (with_reducible repeat (first|refine bN_ ?_ _|refine bD_ ?_|refine bA_ ?_ _)); exact BK192.out) hb)
          have n2_:=K_ (below_step (by repeat (first|(with_reducible first|exact HB.out|apply pA_|apply pN_|apply pD_|refine bS_ ?_ GE176.out|refine bS_ ?_ GE192.out)|exact HB.out)) hb)
          clear BK176
          clear BK192
          clear HB
          have BK176:=n0_
          have BK192:=n1_
          have HB:=n2_
          clear n0_ n1_ n2_
          (try clear hb)
          (try clear hb2)
          (try clear hk)
          (try clear hi)
          refine hK.out _ _ ⟨(blk_cell BK192.out 0).trans rfl, (blk_cell BK192.out 1).trans rfl, (blk_cell BK192.out 2).trans rfl, (blk_cell BK192.out 3).trans rfl, (blk_cell BK192.out 4).trans rfl, (blk_cell BK192.out 5).trans rfl, (blk_cell BK192.out 6).trans rfl⟩ (fun hHeld => ?_)
          clear hK K
          refine norm_ (a' := ?_) ?_ ?_
          rotate_left
          ·
           show Act.put _ (some 48) _ = _
           simp only [Act.put, e1_, e2_, e3_, i64_w, i32_w]
           rfl
          refine pure_ (i := 15) (N := some 49) (v := ?_) (a' := ?_) qm43 rfl rfl (any_of HT_.out (by kernel_rfl)) (fun _ _ _ h => h) (Or.inl ⟨by rfl, ?_⟩) ?_ ?_
          rotate_left
          ·
           intro w'
           go_simp
           with_reducible rfl
          rotate_left
          ·
           simp only [Act.put, e1_, e2_, e3_, i64_w, i32_w]
           rfl
          refine pure_ (i := 16) (N := some 50) (v := ?_) (a' := ?_) qm44 rfl rfl (any_of HT_.out (by kernel_rfl)) (fun _ _ _ h => h) (Or.inl ⟨by rfl, ?_⟩) ?_ ?_
          rotate_left
          ·
           intro w'
           go_simp
           with_reducible rfl
          rotate_left
          ·
           simp only [Act.put, e1_, e2_, e3_, i64_w, i32_w]
           rfl
          refine pure_ (i := 17) (N := some 51) (v := undef) (a' := ?_) qm75 rfl rfl (any_of HT_.out (by kernel_rfl)) (fun _ _ _ h => h) (Or.inr ⟨by rfl, rfl⟩) ?_ ?_
          rotate_left
          ·
           simp only [Act.put, e1_, e2_, e3_, i64_w, i32_w]
           rfl
          refine pure_ (i := 18) (N := some 52) (v := undef) (a' := ?_) qm76 rfl rfl (any_of HT_.out (by kernel_rfl)) (fun _ _ _ h => h) (Or.inr ⟨by rfl, rfl⟩) ?_ ?_
          rotate_left
          ·
           simp only [Act.put, e1_, e2_, e3_, i64_w, i32_w]
           rfl
          refine pure_ (i := 19) (N := some 53) (v := undef) (a' := ?_) qm77 rfl rfl (any_of HT_.out (by kernel_rfl)) (fun _ _ _ h => h) (Or.inr ⟨by rfl, rfl⟩) ?_ ?_
          rotate_left
          ·
           simp only [Act.put, e1_, e2_, e3_, i64_w, i32_w]
           rfl
          refine pure_ (i := 20) (N := some 54) (v := undef) (a' := ?_) qm48 rfl rfl (any_of HT_.out (by kernel_rfl)) (fun _ _ _ h => h) (Or.inr ⟨by rfl, rfl⟩) ?_ ?_
          rotate_left
          ·
           simp only [Act.put, e1_, e2_, e3_, i64_w, i32_w]
           rfl
          refine pure_ (i := 21) (N := some 55) (v := undef) (a' := ?_) qm49 rfl rfl (any_of HT_.out (by kernel_rfl)) (fun _ _ _ h => h) (Or.inr ⟨by rfl, rfl⟩) ?_ ?_
          rotate_left
          ·
           simp only [Act.put, e1_, e2_, e3_, i64_w, i32_w]
           rfl
          refine pure_ (i := 22) (N := some 56) (v := ?_) (a' := ?_) qm50 rfl rfl (any_of HT_.out (by kernel_rfl)) (fun _ _ _ h => h) (Or.inl ⟨by rfl, ?_⟩) ?_ ?_
          rotate_left
          ·
           intro w'
           go_simp
           with_reducible rfl
          rotate_left
          ·
           simp only [Act.put, e1_, e2_, e3_, i64_w, i32_w]
           rfl
          refine pure_ (i := 23) (N := some 57) (v := ?_) (a' := ?_) qm51 rfl rfl (any_of HT_.out (by kernel_rfl)) (fun _ _ _ h => h) (Or.inl ⟨by rfl, ?_⟩) ?_ ?_
          rotate_left
          ·
           intro w'
           go_simp
           with_reducible rfl
          rotate_left
          ·
           simp only [Act.put, e1_, e2_, e3_, i64_w, i32_w]
           rfl
          refine pure_ (i := 24) (N := some 58) (v := ?_) (a' := ?_) qm52 rfl rfl (any_of HT_.out (by kernel_rfl)) (fun _ _ _ h => h) (Or.inl ⟨by rfl, ?_⟩) ?_ ?_
          rotate_left
          ·
           intro w'
           go_simp
           with_reducible rfl
          rotate_left
          ·
           simp only [Act.put, e1_, e2_, e3_, i64_w, i32_w]
           rfl
          refine take_ (i := 25) (N := some 59) (v := ?_) (a' := ?_) qm53 rfl rfl (take_ofW HT_.out HW_.out (by kernel_rfl)) (fun _ _ _ h => h) (Or.inl ⟨by rfl, ?_⟩) hHeld ?_ ?_
          rotate_left
          ·
           rintro w' ⟨s0, s1, s2, s3, s4, s5, s6⟩
           go_simp
           with_reducible rfl
          rotate_left
          ·
           simp only [Act.put, e1_, e2_, e3_, i64_w, i32_w]
           rfl
          refine take_ (i := 26) (N := some 60) (v := ?_) (a' := ?_) qm54 rfl rfl (take_ofW HT_.out HW_.out (by kernel_rfl)) (fun _ _ _ h => h) (Or.inl ⟨by rfl, ?_⟩) hHeld ?_ ?_
          rotate_left
          ·
           rintro w' ⟨s0, s1, s2, s3, s4, s5, s6⟩
           go_simp
           with_reducible rfl
          rotate_left
          ·
           simp only [Act.put, e1_, e2_, e3_, i64_w, i32_w]
           rfl
          refine one_ (i := 27) (N := some 61) qm55 rfl rfl (one_of HT_.out (by kernel_rfl)) (by decide) (fun K hK => ?_)
          refine goes_ Try.func34 (by kernel_rfl) rfl #[.agg #[.int .i64 t185, .int .i64 t186, .int .u32 t187, .int .i64 t188, .int .i64 t189, .int .i64 t190, .int .i64 t191]] (by rfl) rfl rfl (by (try simp only [List.map_toArray, List.map_cons, List.map_nil]); first|done|rfl|(simp only [List.length_drop, List.length_take]; rfl)) ?_
          with_reducible refine (grid_Config_All.calls kj7 t185 t186 t187 t188 t189 t190 t191 t221 _ A104.out).mono ?_
          rintro e w116 ⟨rfl, hb⟩
          refine ⟨_, rfl, ?_⟩
          have n0_:=K_ (blk_below (g := gb176) (o := .cells #[.int .i64 t178, .int .i64 t179, .int .u32 t180, .int .i64 t181, .int .i64 t182, .int .i64 t183, .int .i64 t184] 52 (0, 0)) (by (with_reducible repeat (first|refine bN_ ?_ _|refine bD_ ?_|refine bA_ ?_ _)); exact BK176.out) hb)
          have n1_:=K_ (blk_below (g := gb192) (o := .cells #[.int .i64 t185, .int .i64 t186, .int .u32 t187, .int .i64 t188, .int .i64 t189, .int .i64 t190, .int .i64 t191] 56 (0, 0)) (by (with_reducible repeat (first|refine bN_ ?_ _|refine bD_ ?_|refine bA_ ?_ _)); exact BK192.out) hb)
          have n2_:=K_ (below_step (by repeat (first|(with_reducible first|exact HB.out|apply pA_|apply pN_|apply pD_|refine bS_ ?_ GE176.out|refine bS_ ?_ GE192.out)|exact HB.out)) hb)
          clear BK176
          clear BK192
          clear HB
          have BK176:=n0_
          have BK192:=n1_
          have HB:=n2_
          clear n0_ n1_ n2_
          (try clear hb)
          (try clear hb2)
          (try clear hk)
          (try clear hi)
          refine hK.out _ _ ⟨(blk_cell BK192.out 0).trans rfl, (blk_cell BK192.out 1).trans rfl, (blk_cell BK192.out 2).trans rfl, (blk_cell BK192.out 3).trans rfl, (blk_cell BK192.out 4).trans rfl, (blk_cell BK192.out 5).trans rfl, (blk_cell BK192.out 6).trans rfl⟩ (fun hHeld => ?_)
          clear hK K
          refine norm_ (a' := ?_) ?_ ?_
          rotate_left
          ·
           show Act.put _ (some 61) _ = _
           simp only [Act.put, e1_, e2_, e3_, i64_w, i32_w]
           rfl
          refine one_ (i := 28) (N := some 62) qm56 rfl rfl (one_of HT_.out (by kernel_rfl)) (by decide) (fun K hK => ?_)
          refine goes_ Try.func31 (by kernel_rfl) rfl #[.agg #[.int .i64 t185, .int .i64 t186, .int .u32 t187, .int .i64 t188, .int .i64 t189, .int .i64 t190, .int .i64 t191], .int .u32 t221] (by rfl) rfl rfl (by (try simp only [List.map_toArray, List.map_cons, List.map_nil]); first|done|rfl|(simp only [List.length_drop, List.length_take]; rfl)) ?_
          with_reducible refine (grid_Config_IsFirst.calls kj7 t185 t186 t187 t188 t189 t190 t191 t221 true _ A105.out).mono ?_
          rintro e w117 ⟨rfl, hb⟩
          refine ⟨_, rfl, ?_⟩
          have n0_:=K_ (blk_below (g := gb176) (o := .cells #[.int .i64 t178, .int .i64 t179, .int .u32 t180, .int .i64 t181, .int .i64 t182, .int .i64 t183, .int .i64 t184] 52 (0, 0)) (by (with_reducible repeat (first|refine bN_ ?_ _|refine bD_ ?_|refine bA_ ?_ _)); exact BK176.out) hb)
          have n1_:=K_ (blk_below (g := gb192) (o := .cells #[.int .i64 t185, .int .i64 t186, .int .u32 t187, .int .i64 t188, .int .i64 t189, .int .i64 t190, .int .i64 t191] 56 (0, 0)) (by (with_reducible repeat (first|refine bN_ ?_ _|refine bD_ ?_|refine bA_ ?_ _)); exact BK192.out) hb)
          have n2_:=K_ (below_step (by repeat (first|(with_reducible first|exact HB.out|apply pA_|apply pN_|apply pD_|refine bS_ ?_ GE176.out|refine bS_ ?_ GE192.out)|exact HB.out)) hb)
          clear BK176
          clear BK192
          clear HB
          have BK176:=n0_
          have BK192:=n1_
          have HB:=n2_
          clear n0_ n1_ n2_
          (try clear hb)
          (try clear hb2)
          (try clear hk)
          (try clear hi)
          refine hK.out _ _ ⟨(blk_cell BK192.out 0).trans rfl, (blk_cell BK192.out 1).trans rfl, (blk_cell BK192.out 2).trans rfl, (blk_cell BK192.out 3).trans rfl, (blk_cell BK192.out 4).trans rfl, (blk_cell BK192.out 5).trans rfl, (blk_cell BK192.out 6).trans rfl⟩ (fun hHeld => ?_)
          clear hK K
          refine norm_ (a' := ?_) ?_ ?_
          rotate_left
          ·
           show Act.put _ (some 62) _ = _
           simp only [Act.put, e1_, e2_, e3_, i64_w, i32_w]
           rfl
          refine pure_ (i := 29) (N := some 63) (v := ?_) (a' := ?_) qm57 rfl rfl (any_of HT_.out (by kernel_rfl)) (fun _ _ _ h => h) (Or.inl ⟨by rfl, ?_⟩) ?_ ?_
          rotate_left
          ·
           intro w'
           go_simp
           with_reducible rfl
          rotate_left
          ·
           simp only [Act.put, e1_, e2_, e3_, i64_w, i32_w]
           rfl
          refine pure_ (i := 30) (N := some 64) (v := ?_) (a' := ?_) qm58 rfl rfl (any_of HT_.out (by kernel_rfl)) (fun _ _ _ h => h) (Or.inl ⟨by rfl, ?_⟩) ?_ ?_
          rotate_left
          ·
           intro w'
           go_simp
           with_reducible rfl
          rotate_left
          ·
           simp only [Act.put, e1_, e2_, e3_, i64_w, i32_w]
           rfl
          refine take_ (i := 31) (N := some 65) (v := ?_) (a' := ?_) qm59 rfl rfl (take_ofW HT_.out HW_.out (by kernel_rfl)) (fun _ _ _ h => h) (Or.inl ⟨by rfl, ?_⟩) hHeld ?_ ?_
          rotate_left
          ·
           rintro w' ⟨s0, s1, s2, s3, s4, s5, s6⟩
           go_simp
           with_reducible rfl
          rotate_left
          ·
           simp only [Act.put, e1_, e2_, e3_, i64_w, i32_w]
           rfl
          refine take_ (i := 32) (N := some 66) (v := ?_) (a' := ?_) qm60 rfl rfl (take_ofW HT_.out HW_.out (by kernel_rfl)) (fun _ _ _ h => h) (Or.inl ⟨by rfl, ?_⟩) hHeld ?_ ?_
          rotate_left
          ·
           rintro w' ⟨s0, s1, s2, s3, s4, s5, s6⟩
           go_simp
           with_reducible rfl
          rotate_left
          ·
           simp only [Act.put, e1_, e2_, e3_, i64_w, i32_w]
           rfl
          refine one_ (i := 33) (N := some 67) qm61 rfl rfl (one_of HT_.out (by kernel_rfl)) (by decide) (fun K hK => ?_)
          refine goes_ Try.func34 (by kernel_rfl) rfl #[.agg #[.int .i64 t185, .int .i64 t186, .int .u32 t187, .int .i64 t188, .int .i64 t189, .int .i64 t190, .int .i64 t191]] (by rfl) rfl rfl (by (try simp only [List.map_toArray, List.map_cons, List.map_nil]); first|done|rfl|(simp only [List.length_drop, List.length_take]; rfl)) ?_
          with_reducible refine (grid_Config_All.calls kj7 t185 t186 t187 t188 t189 t190 t191 t223 _ A107.out).mono ?_
          rintro e w118 ⟨rfl, hb⟩
          refine ⟨_, rfl, ?_⟩
          have n0_:=K_ (blk_below (g := gb176) (o := .cells #[.int .i64 t178, .int .i64 t179, .int .u32 t180, .int .i64 t181, .int .i64 t182, .int .i64 t183, .int .i64 t184] 52 (0, 0)) (by (with_reducible repeat (first|refine bN_ ?_ _|refine bD_ ?_|refine bA_ ?_ _)); exact BK176.out) hb)
          have n1_:=K_ (blk_below (g := gb192) (o := .cells #[.int .i64 t185, .int .i64 t186, .int .u32 t187, .int .i64 t188, .int .i64 t189, .int .i64 t190, .int .i64 t191] 56 (0, 0)) (by (with_reducible repeat (first|refine bN_ ?_ _|refine bD_ ?_|refine bA_ ?_ _)); exact BK192.out) hb)
          have n2_:=K_ (below_step (by repeat (first|(with_reducible first|exact HB.out|apply pA_|apply pN_|apply pD_|refine bS_ ?_ GE176.out|refine bS_ ?_ GE192.out)|exact HB.out)) hb)
          clear BK176
          clear BK192
          clear HB
          have BK176:=n0_
          have BK192:=n1_
          have HB:=n2_
          clear n0_ n1_ n2_
          (try clear hb)
          (try clear hb2)
          (try clear hk)
          (try clear hi)
          refine hK.out _ _ ⟨(blk_cell BK192.out 0).trans rfl, (blk_cell BK192.out 1).trans rfl, (blk_cell BK192.out 2).trans rfl, (blk_cell BK192.out 3).trans rfl, (blk_cell BK192.out 4).trans rfl, (blk_cell BK192.out 5).trans rfl, (blk_cell BK192.out 6).trans rfl⟩ (fun hHeld => ?_)
          clear hK K
          refine norm_ (a' := ?_) ?_ ?_
          rotate_left
          ·
           show Act.put _ (some 67) _ = _
           simp only [Act.put, e1_, e2_, e3_, i64_w, i32_w]
           rfl
          refine one_ (i := 34) (N := some 68) qm62 rfl rfl (one_of HT_.out (by kernel_rfl)) (by decide) (fun K hK => ?_)
          refine goes_ Try.func33 (by kernel_rfl) rfl #[.agg #[.int .i64 t185, .int .i64 t186, .int .u32 t187, .int .i64 t188, .int .i64 t189, .int .i64 t190, .int .i64 t191], .int .u32 t223] (by rfl) rfl rfl (by (try simp only [List.map_toArray, List.map_cons, List.map_nil]); first|done|rfl|(simp only [List.length_drop, List.length_take]; rfl)) ?_
          with_reducible refine (grid_Config_IsSecond.calls kj7 t185 t186 t187 t188 t189 t190 t191 t223 true _ A108.out).mono ?_
          rintro e w119 ⟨rfl, hb⟩
          refine ⟨_, rfl, ?_⟩
          have n0_:=K_ (blk_below (g := gb176) (o := .cells #[.int .i64 t178, .int .i64 t179, .int .u32 t180, .int .i64 t181, .int .i64 t182, .int .i64 t183, .int .i64 t184] 52 (0, 0)) (by (with_reducible repeat (first|refine bN_ ?_ _|refine bD_ ?_|refine bA_ ?_ _)); exact BK176.out) hb)
          have n1_:=K_ (blk_below (g := gb192) (o := .cells #[.int .i64 t185, .int .i64 t186, .int .u32 t187, .int .i64 t188, .int .i64 t189, .int .i64 t190, .int .i64 t191] 56 (0, 0)) (by (with_reducible repeat (first|refine bN_ ?_ _|refine bD_ ?_|refine bA_ ?_ _)); exact BK192.out) hb)
          have n2_:=K_ (below_step (by repeat (first|(with_reducible first|exact HB.out|apply pA_|apply pN_|apply pD_|refine bS_ ?_ GE176.out|refine bS_ ?_ GE192.out)|exact HB.out)) hb)
          clear BK176
          clear BK192
          clear HB
          have BK176:=n0_
          have BK192:=n1_
          have HB:=n2_
          clear n0_ n1_ n2_
          (try clear hb)
          (try clear hb2)
          (try clear hk)
          (try clear hi)
          refine hK.out _ _ ⟨(blk_cell BK192.out 0).trans rfl, (blk_cell BK192.out 1).trans rfl, (blk_cell BK192.out 2).trans rfl, (blk_cell BK192.out 3).trans rfl, (blk_cell BK192.out 4).trans rfl, (blk_cell BK192.out 5).trans rfl, (blk_cell BK192.out 6).trans rfl⟩ (fun hHeld => ?_)
          clear hK K
          refine norm_ (a' := ?_) ?_ ?_
          rotate_left
          ·
           show Act.put _ (some 68) _ = _
           simp only [Act.put, e1_, e2_, e3_, i64_w, i32_w]
           rfl
          refine pure_ (i := 35) (N := some 69) (v := ?_) (a' := ?_) qm63 rfl rfl (any_of HT_.out (by kernel_rfl)) (fun _ _ _ h => h) (Or.inl ⟨by rfl, ?_⟩) ?_ ?_
          rotate_left
          ·
           intro w'
           go_simp
           with_reducible rfl
          rotate_left
          ·
           simp only [Act.put, e1_, e2_, e3_, i64_w, i32_w]
           rfl
          refine pure_ (i := 36) (N := some 70) (v := ?_) (a' := ?_) qm64 rfl rfl (any_of HT_.out (by kernel_rfl)) (fun _ _ _ h => h) (Or.inl ⟨by rfl, ?_⟩) ?_ ?_
          rotate_left
          ·
           intro w'
           go_simp
           with_reducible rfl
          rotate_left
          ·
           simp only [Act.put, e1_, e2_, e3_, i64_w, i32_w]
           rfl
          refine take_ (i := 37) (N := some 71) (v := ?_) (a' := ?_) qm65 rfl rfl (take_ofW HT_.out HW_.out (by kernel_rfl)) (fun _ _ _ h => h) (Or.inl ⟨by rfl, ?_⟩) hHeld ?_ ?_
          rotate_left
          ·
           rintro w' ⟨s0, s1, s2, s3, s4, s5, s6⟩
           go_simp
           with_reducible rfl
          rotate_left
          ·
           simp only [Act.put, e1_, e2_, e3_, i64_w, i32_w]
           rfl
          refine one_ (i := 38) (N := some 72) qm66 rfl rfl (one_of HT_.out (by kernel_rfl)) (by decide) (fun K hK => ?_)
          refine goes_ Try.func31 (by kernel_rfl) rfl #[.agg #[.int .i64 t185, .int .i64 t186, .int .u32 t187, .int .i64 t188, .int .i64 t189, .int .i64 t190, .int .i64 t191], .int .u32 0] (by rfl) rfl rfl (by (try simp only [List.map_toArray, List.map_cons, List.map_nil]); first|done|rfl|(simp only [List.length_drop, List.length_take]; rfl)) ?_
          with_reducible refine (grid_Config_IsFirst.calls kj7 t185 t186 t187 t188 t189 t190 t191 0 false _ A110.out).mono ?_
          rintro e w120 ⟨rfl, hb⟩
          refine ⟨_, rfl, ?_⟩
          have n0_:=K_ (blk_below (g := gb176) (o := .cells #[.int .i64 t178, .int .i64 t179, .int .u32 t180, .int .i64 t181, .int .i64 t182, .int .i64 t183, .int .i64 t184] 52 (0, 0)) (by (with_reducible repeat (first|refine bN_ ?_ _|refine bD_ ?_|refine bA_ ?_ _)); exact BK176.out) hb)
          have n1_:=K_ (blk_below (g := gb192) (o := .cells #[.int .i64 t185, .int .i64 t186, .int .u32 t187, .int .i64 t188, .int .i64 t189, .int .i64 t190, .int .i64 t191] 56 (0, 0)) (by (with_reducible repeat (first|refine bN_ ?_ _|refine bD_ ?_|refine bA_ ?_ _)); exact BK192.out) hb)
          have n2_:=K_ (below_step (by repeat (first|(with_reducible first|exact HB.out|apply pA_|apply pN_|apply pD_|refine bS_ ?_ GE176.out|refine bS_ ?_ GE192.out)|exact HB.out)) hb)
          clear BK176
          clear BK192
          clear HB
          have BK176:=n0_
          have BK192:=n1_
          have HB:=n2_
          clear n0_ n1_ n2_
          (try clear hb)
          (try clear hb2)
          (try clear hk)
          (try clear hi)
          refine hK.out _ _ ⟨(blk_cell BK192.out 0).trans rfl, (blk_cell BK192.out 1).trans rfl, (blk_cell BK192.out 2).trans rfl, (blk_cell BK192.out 3).trans rfl, (blk_cell BK192.out 4).trans rfl, (blk_cell BK192.out 5).trans rfl, (blk_cell BK192.out 6).trans rfl⟩ (fun hHeld => ?_)
          clear hK K
          refine norm_ (a' := ?_) ?_ ?_
          rotate_left
          ·
           show Act.put _ (some 72) _ = _
           simp only [Act.put, e1_, e2_, e3_, i64_w, i32_w]
           rfl
          refine pure_ (i := 39) (N := some 73) (v := ?_) (a' := ?_) qm67 rfl rfl (any_of HT_.out (by kernel_rfl)) (fun _ _ _ h => h) (Or.inl ⟨by rfl, ?_⟩) ?_ ?_
          rotate_left
          ·
           intro w'
           go_simp
           with_reducible rfl
          rotate_left
          ·
           simp only [Act.put, e1_, e2_, e3_, i64_w, i32_w]
           rfl
          refine pure_ (i := 40) (N := some 74) (v := ?_) (a' := ?_) qm68 rfl rfl (any_of HT_.out (by kernel_rfl)) (fun _ _ _ h => h) (Or.inl ⟨by rfl, ?_⟩) ?_ ?_
          rotate_left
          ·
           intro w'
           go_simp
           with_reducible rfl
          rotate_left
          ·
           simp only [Act.put, e1_, e2_, e3_, i64_w, i32_w]
           rfl
          refine pure_ (i := 41) (N := some 75) (v := ?_) (a' := ?_) qm69 rfl rfl (any_of HT_.out (by kernel_rfl)) (fun _ _ _ h => h) (Or.inl ⟨by rfl, ?_⟩) ?_ ?_
          rotate_left
          ·
           intro w'
           go_simp
           with_reducible rfl
          rotate_left
          ·
           simp only [Act.put, e1_, e2_, e3_, i64_w, i32_w]
           rfl
          refine take_ (i := 42) (N := some 76) (v := ?_) (a' := ?_) qm70 rfl rfl (take_ofW HT_.out HW_.out (by kernel_rfl)) (fun _ _ _ h => h) (Or.inl ⟨by rfl, ?_⟩) hHeld ?_ ?_
          rotate_left
          ·
           rintro w' ⟨s0, s1, s2, s3, s4, s5, s6⟩
           go_simp
           with_reducible rfl
          rotate_left
          ·
           simp only [Act.put, e1_, e2_, e3_, i64_w, i32_w]
           rfl
          refine one_ (i := 43) (N := some 77) qm71 rfl rfl (one_of HT_.out (by kernel_rfl)) (by decide) (fun K hK => ?_)
          refine goes_ Try.func33 (by kernel_rfl) rfl #[.agg #[.int .i64 t185, .int .i64 t186, .int .u32 t187, .int .i64 t188, .int .i64 t189, .int .i64 t190, .int .i64 t191], .int .u32 0] (by rfl) rfl rfl (by (try simp only [List.map_toArray, List.map_cons, List.map_nil]); first|done|rfl|(simp only [List.length_drop, List.length_take]; rfl)) ?_
          with_reducible refine (grid_Config_IsSecond.calls kj7 t185 t186 t187 t188 t189 t190 t191 0 t226 _ A112.out).mono ?_
          rintro e w121 ⟨rfl, hb⟩
          refine ⟨_, rfl, ?_⟩
          have n0_:=K_ (blk_below (g := gb176) (o := .cells #[.int .i64 t178, .int .i64 t179, .int .u32 t180, .int .i64 t181, .int .i64 t182, .int .i64 t183, .int .i64 t184] 52 (0, 0)) (by (with_reducible repeat (first|refine bN_ ?_ _|refine bD_ ?_|refine bA_ ?_ _)); exact BK176.out) hb)
          have n1_:=K_ (blk_below (g := gb192) (o := .cells #[.int .i64 t185, .int .i64 t186, .int .u32 t187, .int .i64 t188, .int .i64 t189, .int .i64 t190, .int .i64 t191] 56 (0, 0)) (by (with_reducible repeat (first|refine bN_ ?_ _|refine bD_ ?_|refine bA_ ?_ _)); exact BK192.out) hb)
          have n2_:=K_ (below_step (by repeat (first|(with_reducible first|exact HB.out|apply pA_|apply pN_|apply pD_|refine bS_ ?_ GE176.out|refine bS_ ?_ GE192.out)|exact HB.out)) hb)
          clear BK176
          clear BK192
          clear HB
          have BK176:=n0_
          have BK192:=n1_
          have HB:=n2_
          clear n0_ n1_ n2_
          (try clear hb)
          (try clear hb2)
          (try clear hk)
          (try clear hi)
          refine hK.out _ _ ⟨(blk_cell BK192.out 0).trans rfl, (blk_cell BK192.out 1).trans rfl, (blk_cell BK192.out 2).trans rfl, (blk_cell BK192.out 3).trans rfl, (blk_cell BK192.out 4).trans rfl, (blk_cell BK192.out 5).trans rfl, (blk_cell BK192.out 6).trans rfl⟩ (fun hHeld => ?_)
          clear hK K
          refine norm_ (a' := ?_) ?_ ?_
          rotate_left
          ·
           show Act.put _ (some 77) _ = _
           simp only [Act.put, e1_, e2_, e3_, i64_w, i32_w]
           rfl
          refine pure_ (i := 44) (N := some 78) (v := ?_) (a' := ?_) qm72 rfl rfl (any_of HT_.out (by kernel_rfl)) (fun _ _ _ h => h) (Or.inl ⟨by rfl, ?_⟩) ?_ ?_
          rotate_left
          ·
           intro w'
           go_simp
           with_reducible rfl
          rotate_left
          ·
           simp only [Act.put, e1_, e2_, e3_, i64_w, i32_w]
           rfl
          refine pure_ (i := 45) (N := some 79) (v := ?_) (a' := ?_) qm73 rfl rfl (any_of HT_.out (by kernel_rfl)) (fun _ _ _ h => h) (Or.inl ⟨by rfl, ?_⟩) ?_ ?_
          rotate_left
          ·
           intro w'
           go_simp
           with_reducible rfl
          rotate_left
          ·
           simp only [Act.put, e1_, e2_, e3_, i64_w, i32_w]
           rfl
          refine pure_ (i := 46) (N := some 6) (v := ?_) (a' := ?_) qm74 rfl rfl (any_of HT_.out (by kernel_rfl)) (fun _ _ _ h => h) (Or.inl ⟨by rfl, ?_⟩) ?_ ?_
          rotate_left
          ·
           intro w'
           go_simp
           with_reducible rfl
          rotate_left
          ·
           simp only [Act.put, e1_, e2_, e3_, i64_w, i32_w]
           rfl
          refine done_ (done_of HT_.out (by kernel_rfl)) ?_
          try go_wp2
          go_ret
          exact ⟨by first|rfl|(simp [errW_none, errW_some] <;> rfl)|(simp [*, errW_none, errW_some] <;> rfl), by repeat (first|(with_reducible first|exact HB.out|apply pA_|apply pN_|apply pD_|refine bS_ ?_ GE176.out|refine bS_ ?_ GE192.out)|exact HB.out)⟩
        ·
         replace c109 := Bool.eq_false_iff.mpr c109
         subst c109
         have H1 : (some false) = some r := by rw [if_neg (show ¬ (false = true) by decide)] at H; exact H
         clear H
         have H:=H1
         clear H1
         obtain rfl := Option.some.inj H
         exact absurd hr_ (by decide)
       ·
        replace c106 := Bool.eq_false_iff.mpr c106
        subst c106
        have H1 : (some false) = some r := by rw [if_neg (show ¬ (false = true) by decide)] at H; exact H
        clear H
        have H:=H1
        clear H1
        obtain rfl := Option.some.inj H
        exact absurd hr_ (by decide)
 ·
  replace c5 := Bool.eq_false_iff.mpr c5
  subst c5
  have H1 : (some false) = some r := by rw [if_neg (show ¬ (false = true) by decide)] at H; exact H
  clear H
  have H:=H1
  clear H1
  obtain rfl := Option.some.inj H
  exact absurd hr_ (by decide)

end Go.Proofs.Ytbldphmnpangiaa.PGridQuorums
