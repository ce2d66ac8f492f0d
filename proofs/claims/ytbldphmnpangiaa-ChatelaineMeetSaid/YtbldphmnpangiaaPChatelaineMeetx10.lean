-- written by a program of this session (wip/gen/print2.sh)
import Derived.Test.YtbldphmnpangiaaPChatelaineMeetx0
import Derived.Test.YtbldphmnpangiaaPChatelaineMeetx1
import Derived.Test.YtbldphmnpangiaaPChatelaineMeetx3
import Derived.Test.YtbldphmnpangiaaPChatelaineMeetx8
import Derived.Test.YtbldphmnpangiaaPChatelaineMeetx9
namespace Go.Proofs.Ytbldphmnpangiaa.PChatelaineMeet
open Go.RowKit Go.Proofs.YtbldphmnpangiaaW.PrintWords Go.Proofs.YtbldphmnpangiaaW.PrintLast Go.Proofs.YtbldphmnpangiaaW.PrintMore
attribute [local go_sem] max2_int min2_int max_two min_two max_three min_three max_four min_four   -- for this text's walks alone
set_option linter.unusedVariables false
set_option linter.unusedSimpArgs false

/-! ### chatelainetop_ChatelaineMeet: function 12 -/
mutual
def chatelainetop_ChatelaineMeet.j0 : Nat → Bool → Int → Int → Int → Int → Int → Int → Int → Option (Bool)
  | 0, _, _, _, _, _, _, _, _ => none
  | k + 1, x16, x189000, x189001, x189002, x189003, x189004, x189005, x189006 => if x16 = true then (some false) else (chatelainetop_ChatelaineMeet.l0 k 0 x189000 x189001 x189002 x189003 x189004 x189005 x189006)
def chatelainetop_ChatelaineMeet.l0 : Nat → Int → Int → Int → Int → Int → Int → Int → Int → Option (Bool)
  | 0, _, _, _, _, _, _, _, _ => none
  | k + 1, x4, x189000, x189001, x189002, x189003, x189004, x189005, x189006 => (grid_Config_All.f k x189000 x189001 x189002 x189003 x189004 x189005 x189006).bind fun t191 => (if x4 ≤ t191 then ((grid_Config_All.f k x189000 x189001 x189002 x189003 x189004 x189005 x189006).bind fun t192 => ((grid_Config_Witnesses.f k x189000 x189001 x189002 x189003 x189004 x189005 x189006).bind fun t193 => ((grid_Config_IsFirst.f k x189000 x189001 x189002 x189003 x189004 x189005 x189006 x4).bind fun t194 => (if t194 = true then ((grid_Config_IsSecond.f k x189000 x189001 x189002 x189003 x189004 x189005 x189006 (Go.bits .or .u32 (Go.bits .andNot .u32 t192 x4) t193)).bind fun t195 => (if t195 = true then (some false) else ((grid_Config_IsSecond.f k x189000 x189001 x189002 x189003 x189004 x189005 x189006 x4).bind fun t196 => (if t196 = true then ((grid_Config_IsFirst.f k x189000 x189001 x189002 x189003 x189004 x189005 x189006 (Go.bits .or .u32 (Go.bits .andNot .u32 t192 x4) t193)).bind fun t197 => (if t197 = true then (some false) else (chatelainetop_ChatelaineMeet.l0 k ((x4 + 1) % 4294967296) x189000 x189001 x189002 x189003 x189004 x189005 x189006))) else (chatelainetop_ChatelaineMeet.l0 k ((x4 + 1) % 4294967296) x189000 x189001 x189002 x189003 x189004 x189005 x189006))))) else ((grid_Config_IsSecond.f k x189000 x189001 x189002 x189003 x189004 x189005 x189006 x4).bind fun t198 => (if t198 = true then ((grid_Config_IsFirst.f k x189000 x189001 x189002 x189003 x189004 x189005 x189006 (Go.bits .or .u32 (Go.bits .andNot .u32 t192 x4) t193)).bind fun t199 => (if t199 = true then (some false) else (chatelainetop_ChatelaineMeet.l0 k ((x4 + 1) % 4294967296) x189000 x189001 x189002 x189003 x189004 x189005 x189006))) else (chatelainetop_ChatelaineMeet.l0 k ((x4 + 1) % 4294967296) x189000 x189001 x189002 x189003 x189004 x189005 x189006))))))) else (some true))
end
def chatelainetop_ChatelaineMeet.f (k : Nat) (a0_0 : Int) (a0_1 : Int) (a0_2 : Int) (a0_3 : Int) (a0_4 : Int) (a0_5 : Int) (a0_6 : Int) : Option (Bool) := (chatelainelaw07_Right.f k a0_0 a0_1 a0_2 a0_3 a0_4 a0_5 a0_6).bind fun bt174 => ((chatelainelaw07_Own.f bt174.1 bt174.2.1 bt174.2.2.1 bt174.2.2.2.1 bt174.2.2.2.2.1 bt174.2.2.2.2.2.1 bt174.2.2.2.2.2.2).bind fun bt181 => ((grid_Config_Check.f k bt181.1 bt181.2.1 bt181.2.2.1 bt181.2.2.2.1 bt181.2.2.2.2.1 bt181.2.2.2.2.2.1 bt181.2.2.2.2.2.2).bind fun t189 => (if t189 = 0 then ((grid_Config_Len.f k bt181.1 bt181.2.1 bt181.2.2.1 bt181.2.2.2.1 bt181.2.2.2.2.1 bt181.2.2.2.2.2.1 bt181.2.2.2.2.2.2).bind fun t190 => (chatelainetop_ChatelaineMeet.j0 k (t190 == 0) bt181.1 bt181.2.1 bt181.2.2.1 bt181.2.2.2.1 bt181.2.2.2.2.1 bt181.2.2.2.2.2.1 bt181.2.2.2.2.2.2)) else (chatelainetop_ChatelaineMeet.j0 k true bt181.1 bt181.2.1 bt181.2.2.1 bt181.2.2.2.1 bt181.2.2.2.2.1 bt181.2.2.2.2.2.1 bt181.2.2.2.2.2.2))))
theorem chatelainetop_ChatelaineMeet.mono_l : ∀ k, (∀ y0 y1 y2 y3 y4 y5 y6 y7, LeO (chatelainetop_ChatelaineMeet.j0 k y0 y1 y2 y3 y4 y5 y6 y7) (chatelainetop_ChatelaineMeet.j0 (k + 1) y0 y1 y2 y3 y4 y5 y6 y7)) ∧ (∀ y0 y1 y2 y3 y4 y5 y6 y7, LeO (chatelainetop_ChatelaineMeet.l0 k y0 y1 y2 y3 y4 y5 y6 y7) (chatelainetop_ChatelaineMeet.l0 (k + 1) y0 y1 y2 y3 y4 y5 y6 y7))
  | 0 => ⟨fun _ _ _ _ _ _ _ _ r h => by simp [chatelainetop_ChatelaineMeet.j0] at h, fun _ _ _ _ _ _ _ _ r h => by simp [chatelainetop_ChatelaineMeet.l0] at h⟩
  | k + 1 => by
    obtain ⟨ih0, ih1⟩ := chatelainetop_ChatelaineMeet.mono_l k
    refine ⟨?_, ?_⟩
    · intro y0 y1 y2 y3 y4 y5 y6 y7
      unfold chatelainetop_ChatelaineMeet.j0
      repeat' first
      | (with_reducible exact ih0 _ _ _ _ _ _ _ _)
      | (with_reducible exact ih1 _ _ _ _ _ _ _ _)
      | (with_reducible exact chatelainelaw07_Right.mono _ _ _ _ _ _ _ _)
      | (with_reducible exact grid_Config_All.mono _ _ _ _ _ _ _ _)
      | (with_reducible exact grid_Config_Check.mono _ _ _ _ _ _ _ _)
      | (with_reducible exact grid_Config_IsFirst.mono _ _ _ _ _ _ _ _ _)
      | (with_reducible exact grid_Config_IsSecond.mono _ _ _ _ _ _ _ _ _)
      | (with_reducible exact grid_Config_Len.mono _ _ _ _ _ _ _ _)
      | (with_reducible exact grid_Config_Witnesses.mono _ _ _ _ _ _ _ _)
      | (with_reducible exact LeO.refl _)
      | (with_reducible exact LeO.none _)
      | (with_reducible refine LeO.ite ?_ ?_)
      | (with_reducible refine LeO.bind ?_ (fun _ => ?_))
      | exact ih0 _ _ _ _ _ _ _ _
      | exact ih1 _ _ _ _ _ _ _ _
      | exact chatelainelaw07_Right.mono _ _ _ _ _ _ _ _
      | exact grid_Config_All.mono _ _ _ _ _ _ _ _
      | exact grid_Config_Check.mono _ _ _ _ _ _ _ _
      | exact grid_Config_IsFirst.mono _ _ _ _ _ _ _ _ _
      | exact grid_Config_IsSecond.mono _ _ _ _ _ _ _ _ _
      | exact grid_Config_Len.mono _ _ _ _ _ _ _ _
      | exact grid_Config_Witnesses.mono _ _ _ _ _ _ _ _
      | exact LeO.none _
      | refine LeO.ite ?_ ?_
      | refine LeO.bind ?_ (fun _ => ?_)
    · intro y0 y1 y2 y3 y4 y5 y6 y7
      unfold chatelainetop_ChatelaineMeet.l0
      repeat' first
      | (with_reducible exact ih0 _ _ _ _ _ _ _ _)
      | (with_reducible exact ih1 _ _ _ _ _ _ _ _)
      | (with_reducible exact chatelainelaw07_Right.mono _ _ _ _ _ _ _ _)
      | (with_reducible exact grid_Config_All.mono _ _ _ _ _ _ _ _)
      | (with_reducible exact grid_Config_Check.mono _ _ _ _ _ _ _ _)
      | (with_reducible exact grid_Config_IsFirst.mono _ _ _ _ _ _ _ _ _)
      | (with_reducible exact grid_Config_IsSecond.mono _ _ _ _ _ _ _ _ _)
      | (with_reducible exact grid_Config_Len.mono _ _ _ _ _ _ _ _)
      | (with_reducible exact grid_Config_Witnesses.mono _ _ _ _ _ _ _ _)
      | (with_reducible exact LeO.refl _)
      | (with_reducible exact LeO.none _)
      | (with_reducible refine LeO.ite ?_ ?_)
      | (with_reducible refine LeO.bind ?_ (fun _ => ?_))
      | exact ih0 _ _ _ _ _ _ _ _
      | exact ih1 _ _ _ _ _ _ _ _
      | exact chatelainelaw07_Right.mono _ _ _ _ _ _ _ _
      | exact grid_Config_All.mono _ _ _ _ _ _ _ _
      | exact grid_Config_Check.mono _ _ _ _ _ _ _ _
      | exact grid_Config_IsFirst.mono _ _ _ _ _ _ _ _ _
      | exact grid_Config_IsSecond.mono _ _ _ _ _ _ _ _ _
      | exact grid_Config_Len.mono _ _ _ _ _ _ _ _
      | exact grid_Config_Witnesses.mono _ _ _ _ _ _ _ _
      | exact LeO.none _
      | refine LeO.ite ?_ ?_
      | refine LeO.bind ?_ (fun _ => ?_)
theorem chatelainetop_ChatelaineMeet.mono : ∀ a0 a1 a2 a3 a4 a5 a6 k, LeO (chatelainetop_ChatelaineMeet.f k a0 a1 a2 a3 a4 a5 a6) (chatelainetop_ChatelaineMeet.f (k + 1) a0 a1 a2 a3 a4 a5 a6) := by
  intro a0 a1 a2 a3 a4 a5 a6 k
  obtain ⟨ih0, ih1⟩ := chatelainetop_ChatelaineMeet.mono_l k
  unfold chatelainetop_ChatelaineMeet.f
  repeat' first
      | (with_reducible exact ih0 _ _ _ _ _ _ _ _)
      | (with_reducible exact ih1 _ _ _ _ _ _ _ _)
      | (with_reducible exact chatelainelaw07_Right.mono _ _ _ _ _ _ _ _)
      | (with_reducible exact grid_Config_All.mono _ _ _ _ _ _ _ _)
      | (with_reducible exact grid_Config_Check.mono _ _ _ _ _ _ _ _)
      | (with_reducible exact grid_Config_IsFirst.mono _ _ _ _ _ _ _ _ _)
      | (with_reducible exact grid_Config_IsSecond.mono _ _ _ _ _ _ _ _ _)
      | (with_reducible exact grid_Config_Len.mono _ _ _ _ _ _ _ _)
      | (with_reducible exact grid_Config_Witnesses.mono _ _ _ _ _ _ _ _)
      | (with_reducible exact LeO.refl _)
      | (with_reducible exact LeO.none _)
      | (with_reducible refine LeO.ite ?_ ?_)
      | (with_reducible refine LeO.bind ?_ (fun _ => ?_))
      | exact ih0 _ _ _ _ _ _ _ _
      | exact ih1 _ _ _ _ _ _ _ _
      | exact chatelainelaw07_Right.mono _ _ _ _ _ _ _ _
      | exact grid_Config_All.mono _ _ _ _ _ _ _ _
      | exact grid_Config_Check.mono _ _ _ _ _ _ _ _
      | exact grid_Config_IsFirst.mono _ _ _ _ _ _ _ _ _
      | exact grid_Config_IsSecond.mono _ _ _ _ _ _ _ _ _
      | exact grid_Config_Len.mono _ _ _ _ _ _ _ _
      | exact grid_Config_Witnesses.mono _ _ _ _ _ _ _ _
      | exact LeO.none _
      | refine LeO.ite ?_ ?_
      | refine LeO.bind ?_ (fun _ => ?_)
def chatelainetop_ChatelaineMeet.T7 : Bool × List (List Nat × List Nat) := (true, [([], []), ([0], [0]), ([], []), ([1, 2], [1, 2]), ([], []), ([4, 1], [4]), ([3, 5], [3, 5]), ([6, 5, 0, 1, 2, 3, 4, 5, 6], [6])])
def chatelainetop_ChatelaineMeet.B7 : List Nat := [0, 1, 0, 7, 0, 19, 63, 127]
theorem chatelainetop_ChatelaineMeet.tab7 : rtab .any (opsOf Try.f12 7) = chatelainetop_ChatelaineMeet.T7 := by kernel_rfl
theorem chatelainetop_ChatelaineMeet.bits7 : waitsOk chatelainetop_ChatelaineMeet.T7.2 chatelainetop_ChatelaineMeet.B7 = true := by kernel_rfl
set_option maxHeartbeats 8000000 in
set_option maxRecDepth 100000 in
theorem chatelainetop_ChatelaineMeet.calls (k : Nat) (a0_0 : Int) (a0_1 : Int) (a0_2 : Int) (a0_3 : Int) (a0_4 : Int) (a0_5 : Int) (a0_6 : Int) (r : Bool) (w : World) (h : chatelainetop_ChatelaineMeet.f k a0_0 a0_1 a0_2 a0_3 a0_4 a0_5 a0_6 = some r) :
    Calls Try.prog 12 #[.agg #[.int .i64 a0_0, .int .i64 a0_1, .int .u32 a0_2, .int .i64 a0_3, .int .i64 a0_4, .int .i64 a0_5, .int .i64 a0_6]] w fun e w' => e = .returned (.bool r) ∧ Below w.heap.size w w' := by
  have hu52 := Try.underlying52
  have hu56 := Try.underlying56
  have HB := Aside0.mk (Below.refl w.heap.size w)
  have H : ((chatelainelaw07_Right.f k a0_0 a0_1 a0_2 a0_3 a0_4 a0_5 a0_6).bind fun bt174 => ((chatelainelaw07_Own.f bt174.1 bt174.2.1 bt174.2.2.1 bt174.2.2.2.1 bt174.2.2.2.2.1 bt174.2.2.2.2.2.1 bt174.2.2.2.2.2.2).bind fun bt181 => ((grid_Config_Check.f k bt181.1 bt181.2.1 bt181.2.2.1 bt181.2.2.2.1 bt181.2.2.2.2.1 bt181.2.2.2.2.2.1 bt181.2.2.2.2.2.2).bind fun t189 => (if t189 = 0 then ((grid_Config_Len.f k bt181.1 bt181.2.1 bt181.2.2.1 bt181.2.2.2.1 bt181.2.2.2.2.1 bt181.2.2.2.2.2.1 bt181.2.2.2.2.2.2).bind fun t190 => (chatelainetop_ChatelaineMeet.j0 k (t190 == 0) bt181.1 bt181.2.1 bt181.2.2.1 bt181.2.2.2.1 bt181.2.2.2.2.1 bt181.2.2.2.2.2.1 bt181.2.2.2.2.2.2)) else (chatelainetop_ChatelaineMeet.j0 k true bt181.1 bt181.2.1 bt181.2.2.1 bt181.2.2.2.1 bt181.2.2.2.2.1 bt181.2.2.2.2.2.1 bt181.2.2.2.2.2.2))))) = some r := h
  clear h
  replace H := Option.bind_eq_some_iff.mp H
  obtain ⟨⟨t174, t175, t176, t177, t178, t179, t180⟩, A20, H⟩ := H
  replace H : ((chatelainelaw07_Own.f t174 t175 t176 t177 t178 t179 t180).bind fun bt181 => ((grid_Config_Check.f k bt181.1 bt181.2.1 bt181.2.2.1 bt181.2.2.2.1 bt181.2.2.2.2.1 bt181.2.2.2.2.2.1 bt181.2.2.2.2.2.2).bind fun t189 => (if t189 = 0 then ((grid_Config_Len.f k bt181.1 bt181.2.1 bt181.2.2.1 bt181.2.2.2.1 bt181.2.2.2.2.1 bt181.2.2.2.2.2.1 bt181.2.2.2.2.2.2).bind fun t190 => (chatelainetop_ChatelaineMeet.j0 k (t190 == 0) bt181.1 bt181.2.1 bt181.2.2.1 bt181.2.2.2.1 bt181.2.2.2.2.1 bt181.2.2.2.2.2.1 bt181.2.2.2.2.2.2)) else (chatelainetop_ChatelaineMeet.j0 k true bt181.1 bt181.2.1 bt181.2.2.1 bt181.2.2.2.1 bt181.2.2.2.2.1 bt181.2.2.2.2.2.1 bt181.2.2.2.2.2.2)))) = some r := H
  have A2 := Aside0.mk A20
  clear A20
  replace H := Option.bind_eq_some_iff.mp H
  obtain ⟨⟨t181, t182, t183, t184, t185, t186, t187⟩, A30, H⟩ := H
  replace H : ((grid_Config_Check.f k t181 t182 t183 t184 t185 t186 t187).bind fun t189 => (if t189 = 0 then ((grid_Config_Len.f k t181 t182 t183 t184 t185 t186 t187).bind fun t190 => (chatelainetop_ChatelaineMeet.j0 k (t190 == 0) t181 t182 t183 t184 t185 t186 t187)) else (chatelainetop_ChatelaineMeet.j0 k true t181 t182 t183 t184 t185 t186 t187))) = some r := H
  have A3 := Aside0.mk A30
  clear A30
  have HC4 := Aside0.mk H
  clear H
  go_enter Try.func12, Try.ntmps12
  go_upto_region 2 with (first | ((with_reducible refine gate_dst (N := 1) rfl ?_); refine box_event ?hg (N := 1) ?hd (cs := #[.int .i64 a0_0, .int .i64 a0_1, .int .u32 a0_2, .int .i64 a0_3, .int .i64 a0_4, .int .i64 a0_5, .int .i64 a0_6]) (t := 52) ?hr ?_; (case hd => rfl); (case hg => rfl); (case hr => first | (go_simp; done) | (go_simp; rfl)); intro gb173 hg w5 hbox hb; have n0_ := Aside0.mk (below_step (by repeat (first | (with_reducible first | exact HB.out | apply below_alloc | apply pw_below_drewN | apply below_drew1) | exact HB.out)) hb); have n1_ := Aside0.mk (hbox); have n2_ := Aside0.mk ((by rw [hg]; exact (below_size (by repeat (first | (with_reducible first | exact HB.out | apply below_alloc | apply pw_below_drewN | apply below_drew1) | exact HB.out))) : w.heap.size ≤ gb173)); have n3_ := Aside0.mk ((by rw [hg]; exact (below_size (by repeat (first | (with_reducible first | exact HB.out | apply below_alloc | apply pw_below_drewN | apply below_drew1) | exact HB.out))) : w.heap.size ≤ gb173)); clear HB; have HB := n0_; have BK173 := n1_; have GW173 := n2_; have GE173 := n3_; clear n0_ n1_ n2_ n3_; clear hb hbox hg; have hcz6_0 : w5.cell? ⟨gb173, 0, none⟩ = some (.int .i64 a0_0) := (blk_cell BK173.out 0).trans rfl; have hcz6_1 : w5.cell? ⟨gb173, 1, none⟩ = some (.int .i64 a0_1) := (blk_cell BK173.out 1).trans rfl; have hcz6_2 : w5.cell? ⟨gb173, 2, none⟩ = some (.int .u32 a0_2) := (blk_cell BK173.out 2).trans rfl; have hcz6_3 : w5.cell? ⟨gb173, 3, none⟩ = some (.int .i64 a0_3) := (blk_cell BK173.out 3).trans rfl; have hcz6_4 : w5.cell? ⟨gb173, 4, none⟩ = some (.int .i64 a0_4) := (blk_cell BK173.out 4).trans rfl; have hcz6_5 : w5.cell? ⟨gb173, 5, none⟩ = some (.int .i64 a0_5) := (blk_cell BK173.out 5).trans rfl; have hcz6_6 : w5.cell? ⟨gb173, 6, none⟩ = some (.int .i64 a0_6) := (blk_cell BK173.out 6).trans rfl; have hfz6_0 := blk_frozen BK173.out 0; have hfz6_1 := blk_frozen BK173.out 1; have hfz6_2 := blk_frozen BK173.out 2; have hfz6_3 := blk_frozen BK173.out 3; have hfz6_4 := blk_frozen BK173.out 4; have hfz6_5 := blk_frozen BK173.out 5; have hfz6_6 := blk_frozen BK173.out 6) | ((with_reducible refine gate_callee (f := 30) rfl ?_); refine goesL_ (some 7) rfl rfl Try.func30 (by kernel_rfl) rfl #[.agg #[.int .i64 a0_0, .int .i64 a0_1, .int .u32 a0_2, .int .i64 a0_3, .int .i64 a0_4, .int .i64 a0_5, .int .i64 a0_6]] rfl (by (try simp only [List.map_toArray, List.map_cons, List.map_nil]); first | done | rfl | (simp only [List.length_drop, List.length_take]; rfl)) ?_; (with_reducible refine (chatelainelaw07_Right.calls k a0_0 a0_1 a0_2 a0_3 a0_4 a0_5 a0_6 t174 t175 t176 t177 t178 t179 t180 _ A2.out).mono ?_); rintro e w7 ⟨rfl, hb⟩; refine ⟨_, rfl, ?_⟩; have n0_ := Aside0.mk (blk_below (g := gb173) (o := .cells #[.int .i64 a0_0, .int .i64 a0_1, .int .u32 a0_2, .int .i64 a0_3, .int .i64 a0_4, .int .i64 a0_5, .int .i64 a0_6] 52 (0, 0)) (by (with_reducible repeat (first | refine blk_drewN ?_ _ | refine blk_drew ?_ | refine blk_alloc ?_ _)); exact BK173.out) hb); have n1_ := Aside0.mk (below_step (by repeat (first | (with_reducible first | exact HB.out | apply below_alloc | apply pw_below_drewN | apply below_drew1 | refine below_set ?_ GE173.out) | exact HB.out)) hb); clear BK173; clear HB; have BK173 := n0_; have HB := n1_; clear n0_ n1_; (try clear hb); (try clear hb2); (try clear hk); (try clear hi)) | ((with_reducible refine gate_callee (f := 27) rfl ?_); refine goesL_ (some 8) rfl rfl Try.func27 (by kernel_rfl) rfl #[.agg #[.int .i64 t174, .int .i64 t175, .int .u32 t176, .int .i64 t177, .int .i64 t178, .int .i64 t179, .int .i64 t180]] rfl (by (try simp only [List.map_toArray, List.map_cons, List.map_nil]); first | done | rfl | (simp only [List.length_drop, List.length_take]; rfl)) ?_; (with_reducible refine (chatelainelaw07_Own.calls t174 t175 t176 t177 t178 t179 t180 t181 t182 t183 t184 t185 t186 t187 _ A3.out).mono ?_); rintro e w8 ⟨rfl, hb⟩; refine ⟨_, rfl, ?_⟩; have n0_ := Aside0.mk (blk_below (g := gb173) (o := .cells #[.int .i64 a0_0, .int .i64 a0_1, .int .u32 a0_2, .int .i64 a0_3, .int .i64 a0_4, .int .i64 a0_5, .int .i64 a0_6] 52 (0, 0)) (by (with_reducible repeat (first | refine blk_drewN ?_ _ | refine blk_drew ?_ | refine blk_alloc ?_ _)); exact BK173.out) hb); have n1_ := Aside0.mk (below_step (by repeat (first | (with_reducible first | exact HB.out | apply below_alloc | apply pw_below_drewN | apply below_drew1 | refine below_set ?_ GE173.out) | exact HB.out)) hb); clear BK173; clear HB; have BK173 := n0_; have HB := n1_; clear n0_ n1_; (try clear hb); (try clear hb2); (try clear hk); (try clear hi)) | ((with_reducible refine gate_dst (N := 3) rfl ?_); refine box_event ?hg (N := 3) ?hd (cs := #[.int .i64 0, .int .i64 0, .int .u32 0, .int .i64 0, .int .i64 0, .int .i64 0, .int .i64 0]) (t := 56) ?hr ?_; (case hd => rfl); (case hg => rfl); (case hr => first | (go_simp; done) | (go_simp; rfl)); intro gb188 hg w9 hbox hb; have n0_ := Aside0.mk (blk_below (g := gb173) (o := .cells #[.int .i64 a0_0, .int .i64 a0_1, .int .u32 a0_2, .int .i64 a0_3, .int .i64 a0_4, .int .i64 a0_5, .int .i64 a0_6] 52 (0, 0)) (by (with_reducible repeat (first | refine blk_drewN ?_ _ | refine blk_drew ?_ | refine blk_alloc ?_ _)); exact BK173.out) hb); have n1_ := Aside0.mk (below_step (by repeat (first | (with_reducible first | exact HB.out | apply below_alloc | apply pw_below_drewN | apply below_drew1 | refine below_set ?_ GE173.out) | exact HB.out)) hb); have n2_ := Aside0.mk (hbox); have n3_ := Aside0.mk ((by rw [hg]; exact (below_size (by repeat (first | (with_reducible first | exact HB.out | apply below_alloc | apply pw_below_drewN | apply below_drew1 | refine below_set ?_ GE173.out) | exact HB.out))) : w.heap.size ≤ gb188)); have n4_ := Aside0.mk ((by rw [hg]; exact (below_size (by repeat (first | (with_reducible first | exact HB.out | apply below_alloc | apply pw_below_drewN | apply below_drew1 | refine below_set ?_ GE173.out) | exact HB.out))) : w.heap.size ≤ gb188)); have n5_ := Aside0.mk ((by rw [hg]; exact Nat.ne_of_lt (blk_lt (g := gb173) (o := .cells #[.int .i64 a0_0, .int .i64 a0_1, .int .u32 a0_2, .int .i64 a0_3, .int .i64 a0_4, .int .i64 a0_5, .int .i64 a0_6] 52 (0, 0)) (by (with_reducible repeat (first | refine blk_drewN ?_ _ | refine blk_drew ?_ | refine blk_alloc ?_ _)); exact BK173.out)) : gb173 ≠ gb188)); have n6_ := Aside0.mk ((by rw [hg]; exact Nat.ne_of_gt (blk_lt (g := gb173) (o := .cells #[.int .i64 a0_0, .int .i64 a0_1, .int .u32 a0_2, .int .i64 a0_3, .int .i64 a0_4, .int .i64 a0_5, .int .i64 a0_6] 52 (0, 0)) (by (with_reducible repeat (first | refine blk_drewN ?_ _ | refine blk_drew ?_ | refine blk_alloc ?_ _)); exact BK173.out)) : gb188 ≠ gb173)); clear BK173; clear HB; have BK173 := n0_; have HB := n1_; have BK188 := n2_; have GW188 := n3_; have GE188 := n4_; have NB173_188 := n5_; have NB188_173 := n6_; clear n0_ n1_ n2_ n3_ n4_ n5_ n6_; clear hb hbox hg; have hnb10 := NB188_173.out; have hnc10 := NB173_188.out; have hcz11_0 : w9.cell? ⟨gb188, 0, none⟩ = some (.int .i64 0) := (blk_cell BK188.out 0).trans rfl; have hcz11_1 : w9.cell? ⟨gb188, 1, none⟩ = some (.int .i64 0) := (blk_cell BK188.out 1).trans rfl; have hcz11_2 : w9.cell? ⟨gb188, 2, none⟩ = some (.int .u32 0) := (blk_cell BK188.out 2).trans rfl; have hcz11_3 : w9.cell? ⟨gb188, 3, none⟩ = some (.int .i64 0) := (blk_cell BK188.out 3).trans rfl; have hcz11_4 : w9.cell? ⟨gb188, 4, none⟩ = some (.int .i64 0) := (blk_cell BK188.out 4).trans rfl; have hcz11_5 : w9.cell? ⟨gb188, 5, none⟩ = some (.int .i64 0) := (blk_cell BK188.out 5).trans rfl; have hcz11_6 : w9.cell? ⟨gb188, 6, none⟩ = some (.int .i64 0) := (blk_cell BK188.out 6).trans rfl; have hfz11_0 := blk_frozen BK188.out 0; have hfz11_1 := blk_frozen BK188.out 1; have hfz11_2 := blk_frozen BK188.out 2; have hfz11_3 := blk_frozen BK188.out 3; have hfz11_4 := blk_frozen BK188.out 4; have hfz11_5 := blk_frozen BK188.out 5; have hfz11_6 := blk_frozen BK188.out 6))
  (try simp only [Act.put, List.setIfInBounds_toArray, List.set_cons_zero, List.set_cons_succ])
  go_cut [16] (fun v16 wc => ∃ (kq : Nat) (x16_3 : Bool), v16 = .bool x16_3 ∧ Aside0 (chatelainetop_ChatelaineMeet.j0 kq x16_3 t181 t182 t183 t184 t185 t186 t187 = some r) ∧ Aside0 (kq ≤ k) ∧ Aside0 (wc.heap[gb173]? = some (.cells #[.int .i64 a0_0, .int .i64 a0_1, .int .u32 a0_2, .int .i64 a0_3, .int .i64 a0_4, .int .i64 a0_5, .int .i64 a0_6] 52 (0, 0))) ∧ Aside0 (wc.heap[gb188]? = some (.cells #[.int .i64 t181, .int .i64 t182, .int .u32 t183, .int .i64 t184, .int .i64 t185, .int .i64 t186, .int .i64 t187] 56 (0, 0))) ∧ Aside0 (Below w.heap.size w wc))
  case first =>
    have H := HC4.out
    clear HC4
    replace H := Option.bind_eq_some_iff.mp H
    obtain ⟨t189, A120, H⟩ := H
    replace H : (if t189 = 0 then ((grid_Config_Len.f k t181 t182 t183 t184 t185 t186 t187).bind fun t190 => (chatelainetop_ChatelaineMeet.j0 k (t190 == 0) t181 t182 t183 t184 t185 t186 t187)) else (chatelainetop_ChatelaineMeet.j0 k true t181 t182 t183 t184 t185 t186 t187)) = some r := H
    have A12 := Aside0.mk A120
    clear A120
    by_cases c13 : t189 = 0
    · rw [if_pos c13] at H
      have c13b0 : (t189 == 0) = true := beq_iff_eq.mpr c13
      have c13b1 : (t189 != 0) = false := bne_eq_false_iff_eq.mpr c13
      clear c13
      (first | rw [c13b0] | (simp only [i64_w, i32_w]; rw [c13b0]) | skip)
      replace H := Option.bind_eq_some_iff.mp H
      obtain ⟨t190, A140, H⟩ := H
      replace H : (chatelainetop_ChatelaineMeet.j0 k (t190 == 0) t181 t182 t183 t184 t185 t186 t187) = some r := H
      have A14 := Aside0.mk A140
      clear A140
      have H' := Aside0.mk H
      clear H
      have hnb15 := NB188_173.out
      have hnc15 := NB173_188.out
      have hcz16_0 : w9.cell? ⟨gb188, 0, none⟩ = some (.int .i64 0) := (blk_cell BK188.out 0).trans rfl
      have hcz16_1 : w9.cell? ⟨gb188, 1, none⟩ = some (.int .i64 0) := (blk_cell BK188.out 1).trans rfl
      have hcz16_2 : w9.cell? ⟨gb188, 2, none⟩ = some (.int .u32 0) := (blk_cell BK188.out 2).trans rfl
      have hcz16_3 : w9.cell? ⟨gb188, 3, none⟩ = some (.int .i64 0) := (blk_cell BK188.out 3).trans rfl
      have hcz16_4 : w9.cell? ⟨gb188, 4, none⟩ = some (.int .i64 0) := (blk_cell BK188.out 4).trans rfl
      have hcz16_5 : w9.cell? ⟨gb188, 5, none⟩ = some (.int .i64 0) := (blk_cell BK188.out 5).trans rfl
      have hcz16_6 : w9.cell? ⟨gb188, 6, none⟩ = some (.int .i64 0) := (blk_cell BK188.out 6).trans rfl
      have hfz16_0 := blk_frozen BK188.out 0
      have hfz16_1 := blk_frozen BK188.out 1
      have hfz16_2 := blk_frozen BK188.out 2
      have hfz16_3 := blk_frozen BK188.out 3
      have hfz16_4 := blk_frozen BK188.out 4
      have hfz16_5 := blk_frozen BK188.out 5
      have hfz16_6 := blk_frozen BK188.out 6
      go_wp2_with (first | ((with_reducible refine gate_callee (f := 28) rfl ?_); refine goesL_ (some 10) rfl rfl Try.func28 (by kernel_rfl) rfl #[.agg #[.int .i64 t181, .int .i64 t182, .int .u32 t183, .int .i64 t184, .int .i64 t185, .int .i64 t186, .int .i64 t187]] rfl (by (try simp only [List.map_toArray, List.map_cons, List.map_nil]); first | done | rfl | (simp only [List.length_drop, List.length_take]; rfl)) ?_; (with_reducible refine (grid_Config_Check.calls k t181 t182 t183 t184 t185 t186 t187 t189 _ A12.out).mono ?_); rintro e w17 ⟨rfl, hb⟩; refine ⟨_, rfl, ?_⟩; have n0_ := Aside0.mk (blk_below (g := gb173) (o := .cells #[.int .i64 a0_0, .int .i64 a0_1, .int .u32 a0_2, .int .i64 a0_3, .int .i64 a0_4, .int .i64 a0_5, .int .i64 a0_6] 52 (0, 0)) (by (with_reducible repeat (first | refine blk_drewN ?_ _ | refine blk_drew ?_ | refine blk_alloc ?_ _)); refine blk_far ?_ NB173_188.out _; (with_reducible repeat (first | refine blk_drewN ?_ _ | refine blk_drew ?_ | refine blk_alloc ?_ _)); refine blk_far ?_ NB173_188.out _; (with_reducible repeat (first | refine blk_drewN ?_ _ | refine blk_drew ?_ | refine blk_alloc ?_ _)); refine blk_far ?_ NB173_188.out _; (with_reducible repeat (first | refine blk_drewN ?_ _ | refine blk_drew ?_ | refine blk_alloc ?_ _)); refine blk_far ?_ NB173_188.out _; (with_reducible repeat (first | refine blk_drewN ?_ _ | refine blk_drew ?_ | refine blk_alloc ?_ _)); refine blk_far ?_ NB173_188.out _; (with_reducible repeat (first | refine blk_drewN ?_ _ | refine blk_drew ?_ | refine blk_alloc ?_ _)); refine blk_far ?_ NB173_188.out _; (with_reducible repeat (first | refine blk_drewN ?_ _ | refine blk_drew ?_ | refine blk_alloc ?_ _)); refine blk_far ?_ NB173_188.out _; (with_reducible repeat (first | refine blk_drewN ?_ _ | refine blk_drew ?_ | refine blk_alloc ?_ _)); exact BK173.out) hb); have n1_ := Aside0.mk (blk_below (g := gb188) (o := .cells #[.int .i64 t181, .int .i64 t182, .int .u32 t183, .int .i64 t184, .int .i64 t185, .int .i64 t186, .int .i64 t187] 56 (0, 0)) (by (with_reducible repeat (first | refine blk_drewN ?_ _ | refine blk_drew ?_ | refine blk_alloc ?_ _)); refine blk_put (cs := #[.int .i64 t181, .int .i64 t182, .int .u32 t183, .int .i64 t184, .int .i64 t185, .int .i64 t186, .int .i64 0]) ?_ 6 _ rfl; (with_reducible repeat (first | refine blk_drewN ?_ _ | refine blk_drew ?_ | refine blk_alloc ?_ _)); refine blk_put (cs := #[.int .i64 t181, .int .i64 t182, .int .u32 t183, .int .i64 t184, .int .i64 t185, .int .i64 0, .int .i64 0]) ?_ 5 _ rfl; (with_reducible repeat (first | refine blk_drewN ?_ _ | refine blk_drew ?_ | refine blk_alloc ?_ _)); refine blk_put (cs := #[.int .i64 t181, .int .i64 t182, .int .u32 t183, .int .i64 t184, .int .i64 0, .int .i64 0, .int .i64 0]) ?_ 4 _ rfl; (with_reducible repeat (first | refine blk_drewN ?_ _ | refine blk_drew ?_ | refine blk_alloc ?_ _)); refine blk_put (cs := #[.int .i64 t181, .int .i64 t182, .int .u32 t183, .int .i64 0, .int .i64 0, .int .i64 0, .int .i64 0]) ?_ 3 _ rfl; (with_reducible repeat (first | refine blk_drewN ?_ _ | refine blk_drew ?_ | refine blk_alloc ?_ _)); refine blk_put (cs := #[.int .i64 t181, .int .i64 t182, .int .u32 0, .int .i64 0, .int .i64 0, .int .i64 0, .int .i64 0]) ?_ 2 _ rfl; (with_reducible repeat (first | refine blk_drewN ?_ _ | refine blk_drew ?_ | refine blk_alloc ?_ _)); refine blk_put (cs := #[.int .i64 t181, .int .i64 0, .int .u32 0, .int .i64 0, .int .i64 0, .int .i64 0, .int .i64 0]) ?_ 1 _ rfl; (with_reducible repeat (first | refine blk_drewN ?_ _ | refine blk_drew ?_ | refine blk_alloc ?_ _)); refine blk_put (cs := #[.int .i64 0, .int .i64 0, .int .u32 0, .int .i64 0, .int .i64 0, .int .i64 0, .int .i64 0]) ?_ 0 _ rfl; (with_reducible repeat (first | refine blk_drewN ?_ _ | refine blk_drew ?_ | refine blk_alloc ?_ _)); exact BK188.out) hb); have n2_ := Aside0.mk (below_step (by repeat (first | (with_reducible first | exact HB.out | apply below_alloc | apply pw_below_drewN | apply below_drew1 | refine below_set ?_ GE173.out | refine below_set ?_ GE188.out) | exact HB.out)) hb); clear BK173; clear BK188; clear HB; have BK173 := n0_; have BK188 := n1_; have HB := n2_; clear n0_ n1_ n2_; (try clear hb); (try clear hb2); (try clear hk); (try clear hi); have hcz18_0 : w17.cell? ⟨gb188, 0, none⟩ = some (.int .i64 t181) := (blk_cell BK188.out 0).trans rfl; have hcz18_1 : w17.cell? ⟨gb188, 1, none⟩ = some (.int .i64 t182) := (blk_cell BK188.out 1).trans rfl; have hcz18_2 : w17.cell? ⟨gb188, 2, none⟩ = some (.int .u32 t183) := (blk_cell BK188.out 2).trans rfl; have hcz18_3 : w17.cell? ⟨gb188, 3, none⟩ = some (.int .i64 t184) := (blk_cell BK188.out 3).trans rfl; have hcz18_4 : w17.cell? ⟨gb188, 4, none⟩ = some (.int .i64 t185) := (blk_cell BK188.out 4).trans rfl; have hcz18_5 : w17.cell? ⟨gb188, 5, none⟩ = some (.int .i64 t186) := (blk_cell BK188.out 5).trans rfl; have hcz18_6 : w17.cell? ⟨gb188, 6, none⟩ = some (.int .i64 t187) := (blk_cell BK188.out 6).trans rfl; have hfz18_0 := blk_frozen BK188.out 0; have hfz18_1 := blk_frozen BK188.out 1; have hfz18_2 := blk_frozen BK188.out 2; have hfz18_3 := blk_frozen BK188.out 3; have hfz18_4 := blk_frozen BK188.out 4; have hfz18_5 := blk_frozen BK188.out 5; have hfz18_6 := blk_frozen BK188.out 6) | (go_at_call 37; (with_reducible refine (grid_Config_Len.calls k t181 t182 t183 t184 t185 t186 t187 t190 _ A14.out).mono ?_); rintro e w19 ⟨rfl, hb⟩; have n0_ := Aside0.mk (blk_below (g := gb173) (o := .cells #[.int .i64 a0_0, .int .i64 a0_1, .int .u32 a0_2, .int .i64 a0_3, .int .i64 a0_4, .int .i64 a0_5, .int .i64 a0_6] 52 (0, 0)) (by (with_reducible repeat (first | refine blk_drewN ?_ _ | refine blk_drew ?_ | refine blk_alloc ?_ _)); exact BK173.out) hb); have n1_ := Aside0.mk (blk_below (g := gb188) (o := .cells #[.int .i64 t181, .int .i64 t182, .int .u32 t183, .int .i64 t184, .int .i64 t185, .int .i64 t186, .int .i64 t187] 56 (0, 0)) (by (with_reducible repeat (first | refine blk_drewN ?_ _ | refine blk_drew ?_ | refine blk_alloc ?_ _)); exact BK188.out) hb); have n2_ := Aside0.mk (below_step (by repeat (first | (with_reducible first | exact HB.out | apply below_alloc | apply pw_below_drewN | apply below_drew1 | refine below_set ?_ GE173.out | refine below_set ?_ GE188.out) | exact HB.out)) hb); clear BK173; clear BK188; clear HB; have BK173 := n0_; have BK188 := n1_; have HB := n2_; clear n0_ n1_ n2_; (try clear hb); (try clear hb2); (try clear hk); (try clear hi)))
      go_meet
      case rel => exact ⟨_, ((t190 == 0)), (by first | rfl | (simp; done) | (simp [*]; done)), H', ⟨by first | omega | exact Nat.le_refl _⟩, ⟨by (with_reducible repeat (first | refine blk_drewN ?_ _ | refine blk_drew ?_ | refine blk_alloc ?_ _)); exact BK173.out⟩, ⟨by (with_reducible repeat (first | refine blk_drewN ?_ _ | refine blk_drew ?_ | refine blk_alloc ?_ _)); exact BK188.out⟩, ⟨by repeat (first | (with_reducible first | exact HB.out | apply below_alloc | apply pw_below_drewN | apply below_drew1 | refine below_set ?_ GE173.out | refine below_set ?_ GE188.out) | exact HB.out)⟩⟩
    · rw [if_neg c13] at H
      have c13b0 : (t189 == 0) = false := beq_eq_false_iff_ne.mpr c13
      have c13b1 : (t189 != 0) = true := bne_iff_ne.mpr c13
      (first | rw [c13b0] | (simp only [i64_w, i32_w]; rw [c13b0]) | skip)
      have H' := Aside0.mk H
      clear H
      have hnb20 := NB188_173.out
      have hnc20 := NB173_188.out
      have hcz21_0 : w9.cell? ⟨gb188, 0, none⟩ = some (.int .i64 0) := (blk_cell BK188.out 0).trans rfl
      have hcz21_1 : w9.cell? ⟨gb188, 1, none⟩ = some (.int .i64 0) := (blk_cell BK188.out 1).trans rfl
      have hcz21_2 : w9.cell? ⟨gb188, 2, none⟩ = some (.int .u32 0) := (blk_cell BK188.out 2).trans rfl
      have hcz21_3 : w9.cell? ⟨gb188, 3, none⟩ = some (.int .i64 0) := (blk_cell BK188.out 3).trans rfl
      have hcz21_4 : w9.cell? ⟨gb188, 4, none⟩ = some (.int .i64 0) := (blk_cell BK188.out 4).trans rfl
      have hcz21_5 : w9.cell? ⟨gb188, 5, none⟩ = some (.int .i64 0) := (blk_cell BK188.out 5).trans rfl
      have hcz21_6 : w9.cell? ⟨gb188, 6, none⟩ = some (.int .i64 0) := (blk_cell BK188.out 6).trans rfl
      have hfz21_0 := blk_frozen BK188.out 0
      have hfz21_1 := blk_frozen BK188.out 1
      have hfz21_2 := blk_frozen BK188.out 2
      have hfz21_3 := blk_frozen BK188.out 3
      have hfz21_4 := blk_frozen BK188.out 4
      have hfz21_5 := blk_frozen BK188.out 5
      have hfz21_6 := blk_frozen BK188.out 6
      go_wp2_with (first | ((with_reducible refine gate_callee (f := 28) rfl ?_); refine goesL_ (some 10) rfl rfl Try.func28 (by kernel_rfl) rfl #[.agg #[.int .i64 t181, .int .i64 t182, .int .u32 t183, .int .i64 t184, .int .i64 t185, .int .i64 t186, .int .i64 t187]] rfl (by (try simp only [List.map_toArray, List.map_cons, List.map_nil]); first | done | rfl | (simp only [List.length_drop, List.length_take]; rfl)) ?_; (with_reducible refine (grid_Config_Check.calls k t181 t182 t183 t184 t185 t186 t187 t189 _ A12.out).mono ?_); rintro e w22 ⟨rfl, hb⟩; refine ⟨_, rfl, ?_⟩; have n0_ := Aside0.mk (blk_below (g := gb173) (o := .cells #[.int .i64 a0_0, .int .i64 a0_1, .int .u32 a0_2, .int .i64 a0_3, .int .i64 a0_4, .int .i64 a0_5, .int .i64 a0_6] 52 (0, 0)) (by (with_reducible repeat (first | refine blk_drewN ?_ _ | refine blk_drew ?_ | refine blk_alloc ?_ _)); refine blk_far ?_ NB173_188.out _; (with_reducible repeat (first | refine blk_drewN ?_ _ | refine blk_drew ?_ | refine blk_alloc ?_ _)); refine blk_far ?_ NB173_188.out _; (with_reducible repeat (first | refine blk_drewN ?_ _ | refine blk_drew ?_ | refine blk_alloc ?_ _)); refine blk_far ?_ NB173_188.out _; (with_reducible repeat (first | refine blk_drewN ?_ _ | refine blk_drew ?_ | refine blk_alloc ?_ _)); refine blk_far ?_ NB173_188.out _; (with_reducible repeat (first | refine blk_drewN ?_ _ | refine blk_drew ?_ | refine blk_alloc ?_ _)); refine blk_far ?_ NB173_188.out _; (with_reducible repeat (first | refine blk_drewN ?_ _ | refine blk_drew ?_ | refine blk_alloc ?_ _)); refine blk_far ?_ NB173_188.out _; (with_reducible repeat (first | refine blk_drewN ?_ _ | refine blk_drew ?_ | refine blk_alloc ?_ _)); refine blk_far ?_ NB173_188.out _; (with_reducible repeat (first | refine blk_drewN ?_ _ | refine blk_drew ?_ | refine blk_alloc ?_ _)); exact BK173.out) hb); have n1_ := Aside0.mk (blk_below (g := gb188) (o := .cells #[.int .i64 t181, .int .i64 t182, .int .u32 t183, .int .i64 t184, .int .i64 t185, .int .i64 t186, .int .i64 t187] 56 (0, 0)) (by (with_reducible repeat (first | refine blk_drewN ?_ _ | refine blk_drew ?_ | refine blk_alloc ?_ _)); refine blk_put (cs := #[.int .i64 t181, .int .i64 t182, .int .u32 t183, .int .i64 t184, .int .i64 t185, .int .i64 t186, .int .i64 0]) ?_ 6 _ rfl; (with_reducible repeat (first | refine blk_drewN ?_ _ | refine blk_drew ?_ | refine blk_alloc ?_ _)); refine blk_put (cs := #[.int .i64 t181, .int .i64 t182, .int .u32 t183, .int .i64 t184, .int .i64 t185, .int .i64 0, .int .i64 0]) ?_ 5 _ rfl; (with_reducible repeat (first | refine blk_drewN ?_ _ | refine blk_drew ?_ | refine blk_alloc ?_ _)); refine blk_put (cs := #[.int .i64 t181, .int .i64 t182, .int .u32 t183, .int .i64 t184, .int .i64 0, .int .i64 0, .int .i64 0]) ?_ 4 _ rfl; (with_reducible repeat (first | refine blk_drewN ?_ _ | refine blk_drew ?_ | refine blk_alloc ?_ _)); refine blk_put (cs := #[.int .i64 t181, .int .i64 t182, .int .u32 t183, .int .i64 0, .int .i64 0, .int .i64 0, .int .i64 0]) ?_ 3 _ rfl; (with_reducible repeat (first | refine blk_drewN ?_ _ | refine blk_drew ?_ | refine blk_alloc ?_ _)); refine blk_put (cs := #[.int .i64 t181, .int .i64 t182, .int .u32 0, .int .i64 0, .int .i64 0, .int .i64 0, .int .i64 0]) ?_ 2 _ rfl; (with_reducible repeat (first | refine blk_drewN ?_ _ | refine blk_drew ?_ | refine blk_alloc ?_ _)); refine blk_put (cs := #[.int .i64 t181, .int .i64 0, .int .u32 0, .int .i64 0, .int .i64 0, .int .i64 0, .int .i64 0]) ?_ 1 _ rfl; (with_reducible repeat (first | refine blk_drewN ?_ _ | refine blk_drew ?_ | refine blk_alloc ?_ _)); refine blk_put (cs := #[.int .i64 0, .int .i64 0, .int .u32 0, .int .i64 0, .int .i64 0, .int .i64 0, .int .i64 0]) ?_ 0 _ rfl; (with_reducible repeat (first | refine blk_drewN ?_ _ | refine blk_drew ?_ | refine blk_alloc ?_ _)); exact BK188.out) hb); have n2_ := Aside0.mk (below_step (by repeat (first | (with_reducible first | exact HB.out | apply below_alloc | apply pw_below_drewN | apply below_drew1 | refine below_set ?_ GE173.out | refine below_set ?_ GE188.out) | exact HB.out)) hb); clear BK173; clear BK188; clear HB; have BK173 := n0_; have BK188 := n1_; have HB := n2_; clear n0_ n1_ n2_; (try clear hb); (try clear hb2); (try clear hk); (try clear hi)))
      go_meet
      case rel => exact ⟨_, (true), (by first | rfl | (simp; done) | (simp [*]; done)), H', ⟨by first | omega | exact Nat.le_refl _⟩, ⟨by (with_reducible repeat (first | refine blk_drewN ?_ _ | refine blk_drew ?_ | refine blk_alloc ?_ _)); exact BK173.out⟩, ⟨by (with_reducible repeat (first | refine blk_drewN ?_ _ | refine blk_drew ?_ | refine blk_alloc ?_ _)); exact BK188.out⟩, ⟨by repeat (first | (with_reducible first | exact HB.out | apply below_alloc | apply pw_below_drewN | apply below_drew1 | refine below_set ?_ GE173.out | refine below_set ?_ GE188.out) | exact HB.out)⟩⟩
  case rest =>
    clear HC4
    try clear c1
    try clear c2
    try clear p2
    try clear c3
    try clear c10
    try clear c12
    try clear c13
    try clear c13b0
    try clear c13b1
    try clear c15
    try clear c20
    try clear hcz11_0
    try clear hcz11_1
    try clear hcz11_2
    try clear hcz11_3
    try clear hcz11_4
    try clear hcz11_5
    try clear hcz11_6
    try clear hcz16_0
    try clear hcz16_1
    try clear hcz16_2
    try clear hcz16_3
    try clear hcz16_4
    try clear hcz16_5
    try clear hcz16_6
    try clear hcz18_0
    try clear hcz18_1
    try clear hcz18_2
    try clear hcz18_3
    try clear hcz18_4
    try clear hcz18_5
    try clear hcz18_6
    try clear hcz21_0
    try clear hcz21_1
    try clear hcz21_2
    try clear hcz21_3
    try clear hcz21_4
    try clear hcz21_5
    try clear hcz21_6
    try clear hcz6_0
    try clear hcz6_1
    try clear hcz6_2
    try clear hcz6_3
    try clear hcz6_4
    try clear hcz6_5
    try clear hcz6_6
    try clear hfz11_0
    try clear hfz11_1
    try clear hfz11_2
    try clear hfz11_3
    try clear hfz11_4
    try clear hfz11_5
    try clear hfz11_6
    try clear hfz16_0
    try clear hfz16_1
    try clear hfz16_2
    try clear hfz16_3
    try clear hfz16_4
    try clear hfz16_5
    try clear hfz16_6
    try clear hfz18_0
    try clear hfz18_1
    try clear hfz18_2
    try clear hfz18_3
    try clear hfz18_4
    try clear hfz18_5
    try clear hfz18_6
    try clear hfz21_0
    try clear hfz21_1
    try clear hfz21_2
    try clear hfz21_3
    try clear hfz21_4
    try clear hfz21_5
    try clear hfz21_6
    try clear hfz6_0
    try clear hfz6_1
    try clear hfz6_2
    try clear hfz6_3
    try clear hfz6_4
    try clear hfz6_5
    try clear hfz6_6
    obtain ⟨kq, x16_3, rfl, HA, HJ3, BK173, BK188, HB⟩ := hcut
    cases kq with
    | zero => exact absurd HA.out (by simp [chatelainetop_ChatelaineMeet.j0])
    | succ kj3 =>
      have H := HA.out
      clear HA
      simp only [chatelainetop_ChatelaineMeet.j0] at H
      by_cases c23 : x16_3 = true
      · subst c23
        have H1 : (some false) = some r := by rw [if_pos rfl] at H; exact H
        clear H
        have H := H1
        clear H1
        obtain rfl := Option.some.inj H
        go_wp2
        go_ret
        exact ⟨by first | rfl | (simp [errW_none, errW_some] <;> rfl) | (simp [*, errW_none, errW_some] <;> rfl), by repeat (first | (with_reducible first | exact HB.out | apply below_alloc | apply pw_below_drewN | apply below_drew1 | refine below_set ?_ GE173.out | refine below_set ?_ GE188.out) | exact HB.out)⟩
      · replace c23 := Bool.eq_false_iff.mpr c23
        subst c23
        have H1 : (chatelainetop_ChatelaineMeet.l0 kj3 0 t181 t182 t183 t184 t185 t186 t187) = some r := by rw [if_neg (show ¬ (false = true) by decide)] at H; exact H
        clear H
        have H := H1
        clear H1
        have H' := Aside0.mk H
        clear H
        go_wp2
        go_loopg [4] kj3 (fun kq v4 w' => ∃ (x4_2 : Int), v4 = .int .u32 x4_2 ∧ Aside0 (chatelainetop_ChatelaineMeet.l0 kq x4_2 t181 t182 t183 t184 t185 t186 t187 = some r) ∧ Aside0 (kq ≤ kj3) ∧ Aside0 (w'.heap[gb173]? = some (.cells #[.int .i64 a0_0, .int .i64 a0_1, .int .u32 a0_2, .int .i64 a0_3, .int .i64 a0_4, .int .i64 a0_5, .int .i64 a0_6] 52 (0, 0))) ∧ Aside0 (w'.heap[gb188]? = some (.cells #[.int .i64 t181, .int .i64 t182, .int .u32 t183, .int .i64 t184, .int .i64 t185, .int .i64 t186, .int .i64 t187] 56 (0, 0))) ∧ Aside0 (Below w.heap.size w w'))
        case atStart => exact ⟨(0), (by first | rfl | (simp; done) | (simp [*]; done)), H', ⟨Nat.le_refl _⟩, ⟨by (with_reducible repeat (first | refine blk_drewN ?_ _ | refine blk_drew ?_ | refine blk_alloc ?_ _)); exact BK173.out⟩, ⟨by (with_reducible repeat (first | refine blk_drewN ?_ _ | refine blk_drew ?_ | refine blk_alloc ?_ _)); exact BK188.out⟩, ⟨by repeat (first | (with_reducible first | exact HB.out | apply below_alloc | apply pw_below_drewN | apply below_drew1 | refine below_set ?_ GE173.out | refine below_set ?_ GE188.out) | exact HB.out)⟩⟩
        case round =>
          clear H'
          try clear c1
          try clear c2
          try clear p2
          try clear c3
          try clear c10
          try clear c12
          try clear c13
          try clear c13b0
          try clear c13b1
          try clear c15
          try clear c20
          try clear c23
          try clear hcz11_0
          try clear hcz11_1
          try clear hcz11_2
          try clear hcz11_3
          try clear hcz11_4
          try clear hcz11_5
          try clear hcz11_6
          try clear hcz16_0
          try clear hcz16_1
          try clear hcz16_2
          try clear hcz16_3
          try clear hcz16_4
          try clear hcz16_5
          try clear hcz16_6
          try clear hcz18_0
          try clear hcz18_1
          try clear hcz18_2
          try clear hcz18_3
          try clear hcz18_4
          try clear hcz18_5
          try clear hcz18_6
          try clear hcz21_0
          try clear hcz21_1
          try clear hcz21_2
          try clear hcz21_3
          try clear hcz21_4
          try clear hcz21_5
          try clear hcz21_6
          try clear hcz6_0
          try clear hcz6_1
          try clear hcz6_2
          try clear hcz6_3
          try clear hcz6_4
          try clear hcz6_5
          try clear hcz6_6
          try clear hfz11_0
          try clear hfz11_1
          try clear hfz11_2
          try clear hfz11_3
          try clear hfz11_4
          try clear hfz11_5
          try clear hfz11_6
          try clear hfz16_0
          try clear hfz16_1
          try clear hfz16_2
          try clear hfz16_3
          try clear hfz16_4
          try clear hfz16_5
          try clear hfz16_6
          try clear hfz18_0
          try clear hfz18_1
          try clear hfz18_2
          try clear hfz18_3
          try clear hfz18_4
          try clear hfz18_5
          try clear hfz18_6
          try clear hfz21_0
          try clear hfz21_1
          try clear hfz21_2
          try clear hfz21_3
          try clear hfz21_4
          try clear hfz21_5
          try clear hfz21_6
          try clear hfz6_0
          try clear hfz6_1
          try clear hfz6_2
          try clear hfz6_3
          try clear hfz6_4
          try clear hfz6_5
          try clear hfz6_6
          try clear p2
          obtain ⟨x4_2, rfl, HA, HK2, BK173, BK188, HB⟩ := hrel
          cases gk with
          | zero => exact absurd HA.out (by simp [chatelainetop_ChatelaineMeet.l0])
          | succ k2 =>
            have H := HA.out
            clear HA
            simp only [chatelainetop_ChatelaineMeet.l0] at H
            replace H := Option.bind_eq_some_iff.mp H
            obtain ⟨t191, A240, H⟩ := H
            replace H : (if x4_2 ≤ t191 then ((grid_Config_All.f k2 t181 t182 t183 t184 t185 t186 t187).bind fun t192 => ((grid_Config_Witnesses.f k2 t181 t182 t183 t184 t185 t186 t187).bind fun t193 => ((grid_Config_IsFirst.f k2 t181 t182 t183 t184 t185 t186 t187 x4_2).bind fun t194 => (if t194 = true then ((grid_Config_IsSecond.f k2 t181 t182 t183 t184 t185 t186 t187 (Go.bits .or .u32 (Go.bits .andNot .u32 t192 x4_2) t193)).bind fun t195 => (if t195 = true then (some false) else ((grid_Config_IsSecond.f k2 t181 t182 t183 t184 t185 t186 t187 x4_2).bind fun t196 => (if t196 = true then ((grid_Config_IsFirst.f k2 t181 t182 t183 t184 t185 t186 t187 (Go.bits .or .u32 (Go.bits .andNot .u32 t192 x4_2) t193)).bind fun t197 => (if t197 = true then (some false) else (chatelainetop_ChatelaineMeet.l0 k2 ((x4_2 + 1) % 4294967296) t181 t182 t183 t184 t185 t186 t187))) else (chatelainetop_ChatelaineMeet.l0 k2 ((x4_2 + 1) % 4294967296) t181 t182 t183 t184 t185 t186 t187))))) else ((grid_Config_IsSecond.f k2 t181 t182 t183 t184 t185 t186 t187 x4_2).bind fun t198 => (if t198 = true then ((grid_Config_IsFirst.f k2 t181 t182 t183 t184 t185 t186 t187 (Go.bits .or .u32 (Go.bits .andNot .u32 t192 x4_2) t193)).bind fun t199 => (if t199 = true then (some false) else (chatelainetop_ChatelaineMeet.l0 k2 ((x4_2 + 1) % 4294967296) t181 t182 t183 t184 t185 t186 t187))) else (chatelainetop_ChatelaineMeet.l0 k2 ((x4_2 + 1) % 4294967296) t181 t182 t183 t184 t185 t186 t187))))))) else (some true)) = some r := H
            have A24 := Aside0.mk A240
            clear A240
            by_cases c25 : x4_2 ≤ t191
            · rw [if_pos c25] at H
              have c25b0 : decide (x4_2 ≤ t191) = true := decide_eq_true c25
              clear c25
              replace H := Option.bind_eq_some_iff.mp H
              obtain ⟨t192, A260, H⟩ := H
              replace H : ((grid_Config_Witnesses.f k2 t181 t182 t183 t184 t185 t186 t187).bind fun t193 => ((grid_Config_IsFirst.f k2 t181 t182 t183 t184 t185 t186 t187 x4_2).bind fun t194 => (if t194 = true then ((grid_Config_IsSecond.f k2 t181 t182 t183 t184 t185 t186 t187 (Go.bits .or .u32 (Go.bits .andNot .u32 t192 x4_2) t193)).bind fun t195 => (if t195 = true then (some false) else ((grid_Config_IsSecond.f k2 t181 t182 t183 t184 t185 t186 t187 x4_2).bind fun t196 => (if t196 = true then ((grid_Config_IsFirst.f k2 t181 t182 t183 t184 t185 t186 t187 (Go.bits .or .u32 (Go.bits .andNot .u32 t192 x4_2) t193)).bind fun t197 => (if t197 = true then (some false) else (chatelainetop_ChatelaineMeet.l0 k2 ((x4_2 + 1) % 4294967296) t181 t182 t183 t184 t185 t186 t187))) else (chatelainetop_ChatelaineMeet.l0 k2 ((x4_2 + 1) % 4294967296) t181 t182 t183 t184 t185 t186 t187))))) else ((grid_Config_IsSecond.f k2 t181 t182 t183 t184 t185 t186 t187 x4_2).bind fun t198 => (if t198 = true then ((grid_Config_IsFirst.f k2 t181 t182 t183 t184 t185 t186 t187 (Go.bits .or .u32 (Go.bits .andNot .u32 t192 x4_2) t193)).bind fun t199 => (if t199 = true then (some false) else (chatelainetop_ChatelaineMeet.l0 k2 ((x4_2 + 1) % 4294967296) t181 t182 t183 t184 t185 t186 t187))) else (chatelainetop_ChatelaineMeet.l0 k2 ((x4_2 + 1) % 4294967296) t181 t182 t183 t184 t185 t186 t187)))))) = some r := H
              have A26 := Aside0.mk A260
              clear A260
              replace H := Option.bind_eq_some_iff.mp H
              obtain ⟨t193, A270, H⟩ := H
              replace H : ((grid_Config_IsFirst.f k2 t181 t182 t183 t184 t185 t186 t187 x4_2).bind fun t194 => (if t194 = true then ((grid_Config_IsSecond.f k2 t181 t182 t183 t184 t185 t186 t187 (Go.bits .or .u32 (Go.bits .andNot .u32 t192 x4_2) t193)).bind fun t195 => (if t195 = true then (some false) else ((grid_Config_IsSecond.f k2 t181 t182 t183 t184 t185 t186 t187 x4_2).bind fun t196 => (if t196 = true then ((grid_Config_IsFirst.f k2 t181 t182 t183 t184 t185 t186 t187 (Go.bits .or .u32 (Go.bits .andNot .u32 t192 x4_2) t193)).bind fun t197 => (if t197 = true then (some false) else (chatelainetop_ChatelaineMeet.l0 k2 ((x4_2 + 1) % 4294967296) t181 t182 t183 t184 t185 t186 t187))) else (chatelainetop_ChatelaineMeet.l0 k2 ((x4_2 + 1) % 4294967296) t181 t182 t183 t184 t185 t186 t187))))) else ((grid_Config_IsSecond.f k2 t181 t182 t183 t184 t185 t186 t187 x4_2).bind fun t198 => (if t198 = true then ((grid_Config_IsFirst.f k2 t181 t182 t183 t184 t185 t186 t187 (Go.bits .or .u32 (Go.bits .andNot .u32 t192 x4_2) t193)).bind fun t199 => (if t199 = true then (some false) else (chatelainetop_ChatelaineMeet.l0 k2 ((x4_2 + 1) % 4294967296) t181 t182 t183 t184 t185 t186 t187))) else (chatelainetop_ChatelaineMeet.l0 k2 ((x4_2 + 1) % 4294967296) t181 t182 t183 t184 t185 t186 t187))))) = some r := H
              have A27 := Aside0.mk A270
              clear A270
              replace H := Option.bind_eq_some_iff.mp H
              obtain ⟨t194, A280, H⟩ := H
              replace H : (if t194 = true then ((grid_Config_IsSecond.f k2 t181 t182 t183 t184 t185 t186 t187 (Go.bits .or .u32 (Go.bits .andNot .u32 t192 x4_2) t193)).bind fun t195 => (if t195 = true then (some false) else ((grid_Config_IsSecond.f k2 t181 t182 t183 t184 t185 t186 t187 x4_2).bind fun t196 => (if t196 = true then ((grid_Config_IsFirst.f k2 t181 t182 t183 t184 t185 t186 t187 (Go.bits .or .u32 (Go.bits .andNot .u32 t192 x4_2) t193)).bind fun t197 => (if t197 = true then (some false) else (chatelainetop_ChatelaineMeet.l0 k2 ((x4_2 + 1) % 4294967296) t181 t182 t183 t184 t185 t186 t187))) else (chatelainetop_ChatelaineMeet.l0 k2 ((x4_2 + 1) % 4294967296) t181 t182 t183 t184 t185 t186 t187))))) else ((grid_Config_IsSecond.f k2 t181 t182 t183 t184 t185 t186 t187 x4_2).bind fun t198 => (if t198 = true then ((grid_Config_IsFirst.f k2 t181 t182 t183 t184 t185 t186 t187 (Go.bits .or .u32 (Go.bits .andNot .u32 t192 x4_2) t193)).bind fun t199 => (if t199 = true then (some false) else (chatelainetop_ChatelaineMeet.l0 k2 ((x4_2 + 1) % 4294967296) t181 t182 t183 t184 t185 t186 t187))) else (chatelainetop_ChatelaineMeet.l0 k2 ((x4_2 + 1) % 4294967296) t181 t182 t183 t184 t185 t186 t187)))) = some r := H
              have A28 := Aside0.mk A280
              clear A280
              by_cases c29 : t194 = true
              · subst c29
                have H1 : ((grid_Config_IsSecond.f k2 t181 t182 t183 t184 t185 t186 t187 (Go.bits .or .u32 (Go.bits .andNot .u32 t192 x4_2) t193)).bind fun t195 => (if t195 = true then (some false) else ((grid_Config_IsSecond.f k2 t181 t182 t183 t184 t185 t186 t187 x4_2).bind fun t196 => (if t196 = true then ((grid_Config_IsFirst.f k2 t181 t182 t183 t184 t185 t186 t187 (Go.bits .or .u32 (Go.bits .andNot .u32 t192 x4_2) t193)).bind fun t197 => (if t197 = true then (some false) else (chatelainetop_ChatelaineMeet.l0 k2 ((x4_2 + 1) % 4294967296) t181 t182 t183 t184 t185 t186 t187))) else (chatelainetop_ChatelaineMeet.l0 k2 ((x4_2 + 1) % 4294967296) t181 t182 t183 t184 t185 t186 t187))))) = some r := by rw [if_pos rfl] at H; exact H
                clear H
                have H := H1
                clear H1
                replace H := Option.bind_eq_some_iff.mp H
                obtain ⟨t195, A300, H⟩ := H
                replace H : (if t195 = true then (some false) else ((grid_Config_IsSecond.f k2 t181 t182 t183 t184 t185 t186 t187 x4_2).bind fun t196 => (if t196 = true then ((grid_Config_IsFirst.f k2 t181 t182 t183 t184 t185 t186 t187 (Go.bits .or .u32 (Go.bits .andNot .u32 t192 x4_2) t193)).bind fun t197 => (if t197 = true then (some false) else (chatelainetop_ChatelaineMeet.l0 k2 ((x4_2 + 1) % 4294967296) t181 t182 t183 t184 t185 t186 t187))) else (chatelainetop_ChatelaineMeet.l0 k2 ((x4_2 + 1) % 4294967296) t181 t182 t183 t184 t185 t186 t187)))) = some r := H
                have A30 := Aside0.mk A300
                clear A300
                by_cases c31 : t195 = true
                · subst c31
                  have H1 : (some false) = some r := by rw [if_pos rfl] at H; exact H
                  clear H
                  have H := H1
                  clear H1
                  obtain rfl := Option.some.inj H
                  have hnb32 := NB188_173.out
                  have hnc32 := NB173_188.out
                  have hcz33_0 : wr.cell? ⟨gb188, 0, none⟩ = some (.int .i64 t181) := (blk_cell BK188.out 0).trans rfl
                  have hcz33_1 : wr.cell? ⟨gb188, 1, none⟩ = some (.int .i64 t182) := (blk_cell BK188.out 1).trans rfl
                  have hcz33_2 : wr.cell? ⟨gb188, 2, none⟩ = some (.int .u32 t183) := (blk_cell BK188.out 2).trans rfl
                  have hcz33_3 : wr.cell? ⟨gb188, 3, none⟩ = some (.int .i64 t184) := (blk_cell BK188.out 3).trans rfl
                  have hcz33_4 : wr.cell? ⟨gb188, 4, none⟩ = some (.int .i64 t185) := (blk_cell BK188.out 4).trans rfl
                  have hcz33_5 : wr.cell? ⟨gb188, 5, none⟩ = some (.int .i64 t186) := (blk_cell BK188.out 5).trans rfl
                  have hcz33_6 : wr.cell? ⟨gb188, 6, none⟩ = some (.int .i64 t187) := (blk_cell BK188.out 6).trans rfl
                  have hfz33_0 := blk_frozen BK188.out 0
                  have hfz33_1 := blk_frozen BK188.out 1
                  have hfz33_2 := blk_frozen BK188.out 2
                  have hfz33_3 := blk_frozen BK188.out 3
                  have hfz33_4 := blk_frozen BK188.out 4
                  have hfz33_5 := blk_frozen BK188.out 5
                  have hfz33_6 := blk_frozen BK188.out 6
                  try go_wp2_with (first | ((with_reducible refine gate_callee (f := 34) rfl ?_); refine goesL_ (some 19) rfl rfl Try.func34 (by kernel_rfl) rfl #[.agg #[.int .i64 t181, .int .i64 t182, .int .u32 t183, .int .i64 t184, .int .i64 t185, .int .i64 t186, .int .i64 t187]] rfl (by (try simp only [List.map_toArray, List.map_cons, List.map_nil]); first | done | rfl | (simp only [List.length_drop, List.length_take]; rfl)) ?_; (with_reducible refine (grid_Config_All.calls k2 t181 t182 t183 t184 t185 t186 t187 t191 _ A24.out).mono ?_); rintro e w34 ⟨rfl, hb⟩; refine ⟨_, rfl, ?_⟩; have n0_ := Aside0.mk (blk_below (g := gb173) (o := .cells #[.int .i64 a0_0, .int .i64 a0_1, .int .u32 a0_2, .int .i64 a0_3, .int .i64 a0_4, .int .i64 a0_5, .int .i64 a0_6] 52 (0, 0)) (by (with_reducible repeat (first | refine blk_drewN ?_ _ | refine blk_drew ?_ | refine blk_alloc ?_ _)); exact BK173.out) hb); have n1_ := Aside0.mk (blk_below (g := gb188) (o := .cells #[.int .i64 t181, .int .i64 t182, .int .u32 t183, .int .i64 t184, .int .i64 t185, .int .i64 t186, .int .i64 t187] 56 (0, 0)) (by (with_reducible repeat (first | refine blk_drewN ?_ _ | refine blk_drew ?_ | refine blk_alloc ?_ _)); exact BK188.out) hb); have n2_ := Aside0.mk (below_step (by repeat (first | (with_reducible first | exact HB.out | apply below_alloc | apply pw_below_drewN | apply below_drew1 | refine below_set ?_ GE173.out | refine below_set ?_ GE188.out) | exact HB.out)) hb); clear BK173; clear BK188; clear HB; have BK173 := n0_; have BK188 := n1_; have HB := n2_; clear n0_ n1_ n2_; (try clear hb); (try clear hb2); (try clear hk); (try clear hi)))
                  have n0_ := Aside0.mk (blk_drew BK173.out)
                  have n1_ := Aside0.mk (blk_drew BK188.out)
                  have n2_ := Aside0.mk (below_drew1 HB.out)
                  clear BK173
                  clear BK188
                  clear HB
                  have BK173 := n0_
                  have BK188 := n1_
                  have HB := n2_
                  clear n0_ n1_ n2_
                  refine start_ (n := 8) (S := fun w' => w'.cell? ⟨gb188, 0, none⟩ = some (.int .i64 t181) ∧ w'.cell? ⟨gb188, 1, none⟩ = some (.int .i64 t182) ∧ w'.cell? ⟨gb188, 2, none⟩ = some (.int .u32 t183) ∧ w'.cell? ⟨gb188, 3, none⟩ = some (.int .i64 t184) ∧ w'.cell? ⟨gb188, 4, none⟩ = some (.int .i64 t185) ∧ w'.cell? ⟨gb188, 5, none⟩ = some (.int .i64 t186) ∧ w'.cell? ⟨gb188, 6, none⟩ = some (.int .i64 t187)) (ds := []) #[false, false, false, false, false, false, false, false] (by kernel_rfl) rfl rfl ⟨(blk_cell BK188.out 0).trans rfl, (blk_cell BK188.out 1).trans rfl, (blk_cell BK188.out 2).trans rfl, (blk_cell BK188.out 3).trans rfl, (blk_cell BK188.out 4).trans rfl, (blk_cell BK188.out 5).trans rfl, (blk_cell BK188.out 6).trans rfl⟩ (fun hHeld => ?_); refine with_tabW chatelainetop_ChatelaineMeet.tab7 chatelainetop_ChatelaineMeet.bits7 (fun HT_ HW_ => ?_)
                  generalize w34.drew = w35 at BK173 BK188 HB hHeld ⊢
                  refine pure_ (i := 2) (N := some 25) (v := ?_) (a' := ?_) #[false, false, true, false, false, false, false, false] rfl rfl (any_of HT_.out (by kernel_rfl)) (fun _ _ _ h => h) (Or.inl ⟨by rfl, ?_⟩) ?_ ?_
                  rotate_left
                  · intro w'
                    go_simp
                    with_reducible rfl
                  rotate_left
                  · simp only [Act.put, List.setIfInBounds_toArray, List.set_cons_zero, List.set_cons_succ, i64_w, i32_w]
                    rfl
                  refine take_ (i := 0) (N := some 23) (v := ?_) (a' := ?_) #[true, false, true, false, false, false, false, false] rfl rfl (take_ofW HT_.out HW_.out (by kernel_rfl)) (fun _ _ _ h => h) (Or.inl ⟨by rfl, ?_⟩) hHeld ?_ ?_
                  rotate_left
                  · rintro w' ⟨s0, s1, s2, s3, s4, s5, s6⟩
                    go_simp
                    with_reducible rfl
                  rotate_left
                  · simp only [Act.put, List.setIfInBounds_toArray, List.set_cons_zero, List.set_cons_succ, i64_w, i32_w]
                    rfl
                  refine take_ (i := 4) (N := some 27) (v := ?_) (a' := ?_) #[true, false, true, false, true, false, false, false] rfl rfl (take_ofW HT_.out HW_.out (by kernel_rfl)) (fun _ _ _ h => h) (Or.inl ⟨by rfl, ?_⟩) hHeld ?_ ?_
                  rotate_left
                  · rintro w' ⟨s0, s1, s2, s3, s4, s5, s6⟩
                    go_simp
                    with_reducible rfl
                  rotate_left
                  · simp only [Act.put, List.setIfInBounds_toArray, List.set_cons_zero, List.set_cons_succ, i64_w, i32_w]
                    rfl
                  refine one_ (i := 1) (N := some 24) #[true, true, true, false, true, false, false, false] rfl rfl (one_of HT_.out (by kernel_rfl)) (by decide) (fun K hK => ?_)
                  refine goes_ Try.func34 (by kernel_rfl) rfl #[.agg #[.int .i64 t181, .int .i64 t182, .int .u32 t183, .int .i64 t184, .int .i64 t185, .int .i64 t186, .int .i64 t187]] (by rfl) rfl rfl (by (try simp only [List.map_toArray, List.map_cons, List.map_nil]); first | done | rfl | (simp only [List.length_drop, List.length_take]; rfl)) ?_
                  with_reducible refine (grid_Config_All.calls k2 t181 t182 t183 t184 t185 t186 t187 t192 _ A26.out).mono ?_
                  rintro e w36 ⟨rfl, hb⟩
                  refine ⟨_, rfl, ?_⟩
                  have n0_ := Aside0.mk (blk_below (g := gb173) (o := .cells #[.int .i64 a0_0, .int .i64 a0_1, .int .u32 a0_2, .int .i64 a0_3, .int .i64 a0_4, .int .i64 a0_5, .int .i64 a0_6] 52 (0, 0)) (by (with_reducible repeat (first | refine blk_drewN ?_ _ | refine blk_drew ?_ | refine blk_alloc ?_ _)); exact BK173.out) hb)
                  have n1_ := Aside0.mk (blk_below (g := gb188) (o := .cells #[.int .i64 t181, .int .i64 t182, .int .u32 t183, .int .i64 t184, .int .i64 t185, .int .i64 t186, .int .i64 t187] 56 (0, 0)) (by (with_reducible repeat (first | refine blk_drewN ?_ _ | refine blk_drew ?_ | refine blk_alloc ?_ _)); exact BK188.out) hb)
                  have n2_ := Aside0.mk (below_step (by repeat (first | (with_reducible first | exact HB.out | apply below_alloc | apply pw_below_drewN | apply below_drew1 | refine below_set ?_ GE173.out | refine below_set ?_ GE188.out) | exact HB.out)) hb)
                  clear BK173
                  clear BK188
                  clear HB
                  have BK173 := n0_
                  have BK188 := n1_
                  have HB := n2_
                  clear n0_ n1_ n2_
                  (try clear hb)
                  (try clear hb2)
                  (try clear hk)
                  (try clear hi)
                  refine hK.out _ _ ⟨(blk_cell BK188.out 0).trans rfl, (blk_cell BK188.out 1).trans rfl, (blk_cell BK188.out 2).trans rfl, (blk_cell BK188.out 3).trans rfl, (blk_cell BK188.out 4).trans rfl, (blk_cell BK188.out 5).trans rfl, (blk_cell BK188.out 6).trans rfl⟩ (fun hHeld => ?_)
                  clear hK K
                  refine norm_ (a' := ?_) ?_ ?_
                  rotate_left
                  · show Act.put _ (some 24) _ = _
                    simp only [Act.put, List.setIfInBounds_toArray, List.set_cons_zero, List.set_cons_succ, i64_w, i32_w]
                    rfl
                  refine pure_ (i := 3) (N := some 26) (v := ?_) (a' := ?_) #[true, true, true, true, true, false, false, false] rfl rfl (any_of HT_.out (by kernel_rfl)) (fun _ _ _ h => h) (Or.inl ⟨by rfl, ?_⟩) ?_ ?_
                  rotate_left
                  · intro w'
                    go_simp
                    with_reducible rfl
                  rotate_left
                  · simp only [Act.put, List.setIfInBounds_toArray, List.set_cons_zero, List.set_cons_succ, i64_w, i32_w]
                    rfl
                  refine one_ (i := 5) (N := some 28) #[true, true, true, true, true, true, false, false] rfl rfl (one_of HT_.out (by kernel_rfl)) (by decide) (fun K hK => ?_)
                  refine goes_ Try.func35 (by kernel_rfl) rfl #[.agg #[.int .i64 t181, .int .i64 t182, .int .u32 t183, .int .i64 t184, .int .i64 t185, .int .i64 t186, .int .i64 t187]] (by rfl) rfl rfl (by (try simp only [List.map_toArray, List.map_cons, List.map_nil]); first | done | rfl | (simp only [List.length_drop, List.length_take]; rfl)) ?_
                  with_reducible refine (grid_Config_Witnesses.calls k2 t181 t182 t183 t184 t185 t186 t187 t193 _ A27.out).mono ?_
                  rintro e w37 ⟨rfl, hb⟩
                  refine ⟨_, rfl, ?_⟩
                  have n0_ := Aside0.mk (blk_below (g := gb173) (o := .cells #[.int .i64 a0_0, .int .i64 a0_1, .int .u32 a0_2, .int .i64 a0_3, .int .i64 a0_4, .int .i64 a0_5, .int .i64 a0_6] 52 (0, 0)) (by (with_reducible repeat (first | refine blk_drewN ?_ _ | refine blk_drew ?_ | refine blk_alloc ?_ _)); exact BK173.out) hb)
                  have n1_ := Aside0.mk (blk_below (g := gb188) (o := .cells #[.int .i64 t181, .int .i64 t182, .int .u32 t183, .int .i64 t184, .int .i64 t185, .int .i64 t186, .int .i64 t187] 56 (0, 0)) (by (with_reducible repeat (first | refine blk_drewN ?_ _ | refine blk_drew ?_ | refine blk_alloc ?_ _)); exact BK188.out) hb)
                  have n2_ := Aside0.mk (below_step (by repeat (first | (with_reducible first | exact HB.out | apply below_alloc | apply pw_below_drewN | apply below_drew1 | refine below_set ?_ GE173.out | refine below_set ?_ GE188.out) | exact HB.out)) hb)
                  clear BK173
                  clear BK188
                  clear HB
                  have BK173 := n0_
                  have BK188 := n1_
                  have HB := n2_
                  clear n0_ n1_ n2_
                  (try clear hb)
                  (try clear hb2)
                  (try clear hk)
                  (try clear hi)
                  refine hK.out _ _ ⟨(blk_cell BK188.out 0).trans rfl, (blk_cell BK188.out 1).trans rfl, (blk_cell BK188.out 2).trans rfl, (blk_cell BK188.out 3).trans rfl, (blk_cell BK188.out 4).trans rfl, (blk_cell BK188.out 5).trans rfl, (blk_cell BK188.out 6).trans rfl⟩ (fun hHeld => ?_)
                  clear hK K
                  refine norm_ (a' := ?_) ?_ ?_
                  rotate_left
                  · show Act.put _ (some 28) _ = _
                    simp only [Act.put, List.setIfInBounds_toArray, List.set_cons_zero, List.set_cons_succ, i64_w, i32_w]
                    rfl
                  refine pure_ (i := 6) (N := some 29) (v := ?_) (a' := ?_) #[true, true, true, true, true, true, true, false] rfl rfl (any_of HT_.out (by kernel_rfl)) (fun _ _ _ h => h) (Or.inl ⟨by rfl, ?_⟩) ?_ ?_
                  rotate_left
                  · intro w'
                    go_simp
                    with_reducible rfl
                  rotate_left
                  · simp only [Act.put, List.setIfInBounds_toArray, List.set_cons_zero, List.set_cons_succ, i64_w, i32_w]
                    rfl
                  refine pure_ (i := 7) (N := some 5) (v := ?_) (a' := ?_) #[true, true, true, true, true, true, true, true] rfl rfl (any_of HT_.out (by kernel_rfl)) (fun _ _ _ h => h) (Or.inl ⟨by rfl, ?_⟩) ?_ ?_
                  rotate_left
                  · intro w'
                    go_simp
                    with_reducible rfl
                  rotate_left
                  · simp only [Act.put, List.setIfInBounds_toArray, List.set_cons_zero, List.set_cons_succ, i64_w, i32_w]
                    rfl
                  refine done_ (done_of HT_.out (by kernel_rfl)) ?_
                  have hcz38_0 : w37.cell? ⟨gb188, 0, none⟩ = some (.int .i64 t181) := (blk_cell BK188.out 0).trans rfl
                  have hcz38_1 : w37.cell? ⟨gb188, 1, none⟩ = some (.int .i64 t182) := (blk_cell BK188.out 1).trans rfl
                  have hcz38_2 : w37.cell? ⟨gb188, 2, none⟩ = some (.int .u32 t183) := (blk_cell BK188.out 2).trans rfl
                  have hcz38_3 : w37.cell? ⟨gb188, 3, none⟩ = some (.int .i64 t184) := (blk_cell BK188.out 3).trans rfl
                  have hcz38_4 : w37.cell? ⟨gb188, 4, none⟩ = some (.int .i64 t185) := (blk_cell BK188.out 4).trans rfl
                  have hcz38_5 : w37.cell? ⟨gb188, 5, none⟩ = some (.int .i64 t186) := (blk_cell BK188.out 5).trans rfl
                  have hcz38_6 : w37.cell? ⟨gb188, 6, none⟩ = some (.int .i64 t187) := (blk_cell BK188.out 6).trans rfl
                  have hfz38_0 := blk_frozen BK188.out 0
                  have hfz38_1 := blk_frozen BK188.out 1
                  have hfz38_2 := blk_frozen BK188.out 2
                  have hfz38_3 := blk_frozen BK188.out 3
                  have hfz38_4 := blk_frozen BK188.out 4
                  have hfz38_5 := blk_frozen BK188.out 5
                  have hfz38_6 := blk_frozen BK188.out 6
                  try go_wp2_with (first | ((with_reducible refine gate_callee (f := 31) rfl ?_); refine goesL_ (some 32) rfl rfl Try.func31 (by kernel_rfl) rfl #[.agg #[.int .i64 t181, .int .i64 t182, .int .u32 t183, .int .i64 t184, .int .i64 t185, .int .i64 t186, .int .i64 t187], .int .u32 x4_2] rfl (by (try simp only [List.map_toArray, List.map_cons, List.map_nil]); first | done | rfl | (simp only [List.length_drop, List.length_take]; rfl)) ?_; (with_reducible refine (grid_Config_IsFirst.calls k2 t181 t182 t183 t184 t185 t186 t187 x4_2 true _ A28.out).mono ?_); rintro e w39 ⟨rfl, hb⟩; refine ⟨_, rfl, ?_⟩; have n0_ := Aside0.mk (blk_below (g := gb173) (o := .cells #[.int .i64 a0_0, .int .i64 a0_1, .int .u32 a0_2, .int .i64 a0_3, .int .i64 a0_4, .int .i64 a0_5, .int .i64 a0_6] 52 (0, 0)) (by (with_reducible repeat (first | refine blk_drewN ?_ _ | refine blk_drew ?_ | refine blk_alloc ?_ _)); exact BK173.out) hb); have n1_ := Aside0.mk (blk_below (g := gb188) (o := .cells #[.int .i64 t181, .int .i64 t182, .int .u32 t183, .int .i64 t184, .int .i64 t185, .int .i64 t186, .int .i64 t187] 56 (0, 0)) (by (with_reducible repeat (first | refine blk_drewN ?_ _ | refine blk_drew ?_ | refine blk_alloc ?_ _)); exact BK188.out) hb); have n2_ := Aside0.mk (below_step (by repeat (first | (with_reducible first | exact HB.out | apply below_alloc | apply pw_below_drewN | apply below_drew1 | refine below_set ?_ GE173.out | refine below_set ?_ GE188.out) | exact HB.out)) hb); clear BK173; clear BK188; clear HB; have BK173 := n0_; have BK188 := n1_; have HB := n2_; clear n0_ n1_ n2_; (try clear hb); (try clear hb2); (try clear hk); (try clear hi); have hcz40_0 : w39.cell? ⟨gb188, 0, none⟩ = some (.int .i64 t181) := (blk_cell BK188.out 0).trans rfl; have hcz40_1 : w39.cell? ⟨gb188, 1, none⟩ = some (.int .i64 t182) := (blk_cell BK188.out 1).trans rfl; have hcz40_2 : w39.cell? ⟨gb188, 2, none⟩ = some (.int .u32 t183) := (blk_cell BK188.out 2).trans rfl; have hcz40_3 : w39.cell? ⟨gb188, 3, none⟩ = some (.int .i64 t184) := (blk_cell BK188.out 3).trans rfl; have hcz40_4 : w39.cell? ⟨gb188, 4, none⟩ = some (.int .i64 t185) := (blk_cell BK188.out 4).trans rfl; have hcz40_5 : w39.cell? ⟨gb188, 5, none⟩ = some (.int .i64 t186) := (blk_cell BK188.out 5).trans rfl; have hcz40_6 : w39.cell? ⟨gb188, 6, none⟩ = some (.int .i64 t187) := (blk_cell BK188.out 6).trans rfl; have hfz40_0 := blk_frozen BK188.out 0; have hfz40_1 := blk_frozen BK188.out 1; have hfz40_2 := blk_frozen BK188.out 2; have hfz40_3 := blk_frozen BK188.out 3; have hfz40_4 := blk_frozen BK188.out 4; have hfz40_5 := blk_frozen BK188.out 5; have hfz40_6 := blk_frozen BK188.out 6) | (go_at_call 33; (with_reducible refine (grid_Config_IsSecond.calls k2 t181 t182 t183 t184 t185 t186 t187 (Go.bits .or .u32 (Go.bits .andNot .u32 t192 x4_2) t193) true _ A30.out).mono ?_); rintro e w41 ⟨rfl, hb⟩; have n0_ := Aside0.mk (blk_below (g := gb173) (o := .cells #[.int .i64 a0_0, .int .i64 a0_1, .int .u32 a0_2, .int .i64 a0_3, .int .i64 a0_4, .int .i64 a0_5, .int .i64 a0_6] 52 (0, 0)) (by (with_reducible repeat (first | refine blk_drewN ?_ _ | refine blk_drew ?_ | refine blk_alloc ?_ _)); exact BK173.out) hb); have n1_ := Aside0.mk (blk_below (g := gb188) (o := .cells #[.int .i64 t181, .int .i64 t182, .int .u32 t183, .int .i64 t184, .int .i64 t185, .int .i64 t186, .int .i64 t187] 56 (0, 0)) (by (with_reducible repeat (first | refine blk_drewN ?_ _ | refine blk_drew ?_ | refine blk_alloc ?_ _)); exact BK188.out) hb); have n2_ := Aside0.mk (below_step (by repeat (first | (with_reducible first | exact HB.out | apply below_alloc | apply pw_below_drewN | apply below_drew1 | refine below_set ?_ GE173.out | refine below_set ?_ GE188.out) | exact HB.out)) hb); clear BK173; clear BK188; clear HB; have BK173 := n0_; have BK188 := n1_; have HB := n2_; clear n0_ n1_ n2_; (try clear hb); (try clear hb2); (try clear hk); (try clear hi)))
                  go_ret
                  exact ⟨by first | rfl | (simp [errW_none, errW_some] <;> rfl) | (simp [*, errW_none, errW_some] <;> rfl), by repeat (first | (with_reducible first | exact HB.out | apply below_alloc | apply pw_below_drewN | apply below_drew1 | refine below_set ?_ GE173.out | refine below_set ?_ GE188.out) | exact HB.out)⟩
                · replace c31 := Bool.eq_false_iff.mpr c31
                  subst c31
                  have H1 : ((grid_Config_IsSecond.f k2 t181 t182 t183 t184 t185 t186 t187 x4_2).bind fun t196 => (if t196 = true then ((grid_Config_IsFirst.f k2 t181 t182 t183 t184 t185 t186 t187 (Go.bits .or .u32 (Go.bits .andNot .u32 t192 x4_2) t193)).bind fun t197 => (if t197 = true then (some false) else (chatelainetop_ChatelaineMeet.l0 k2 ((x4_2 + 1) % 4294967296) t181 t182 t183 t184 t185 t186 t187))) else (chatelainetop_ChatelaineMeet.l0 k2 ((x4_2 + 1) % 4294967296) t181 t182 t183 t184 t185 t186 t187))) = some r := by rw [if_neg (show ¬ (false = true) by decide)] at H; exact H
                  clear H
                  have H := H1
                  clear H1
                  replace H := Option.bind_eq_some_iff.mp H
                  obtain ⟨t196, A420, H⟩ := H
                  replace H : (if t196 = true then ((grid_Config_IsFirst.f k2 t181 t182 t183 t184 t185 t186 t187 (Go.bits .or .u32 (Go.bits .andNot .u32 t192 x4_2) t193)).bind fun t197 => (if t197 = true then (some false) else (chatelainetop_ChatelaineMeet.l0 k2 ((x4_2 + 1) % 4294967296) t181 t182 t183 t184 t185 t186 t187))) else (chatelainetop_ChatelaineMeet.l0 k2 ((x4_2 + 1) % 4294967296) t181 t182 t183 t184 t185 t186 t187)) = some r := H
                  have A42 := Aside0.mk A420
                  clear A420
                  by_cases c43 : t196 = true
                  · subst c43
                    have H1 : ((grid_Config_IsFirst.f k2 t181 t182 t183 t184 t185 t186 t187 (Go.bits .or .u32 (Go.bits .andNot .u32 t192 x4_2) t193)).bind fun t197 => (if t197 = true then (some false) else (chatelainetop_ChatelaineMeet.l0 k2 ((x4_2 + 1) % 4294967296) t181 t182 t183 t184 t185 t186 t187))) = some r := by rw [if_pos rfl] at H; exact H
                    clear H
                    have H := H1
                    clear H1
                    replace H := Option.bind_eq_some_iff.mp H
                    obtain ⟨t197, A440, H⟩ := H
                    replace H : (if t197 = true then (some false) else (chatelainetop_ChatelaineMeet.l0 k2 ((x4_2 + 1) % 4294967296) t181 t182 t183 t184 t185 t186 t187)) = some r := H
                    have A44 := Aside0.mk A440
                    clear A440
                    by_cases c45 : t197 = true
                    · subst c45
                      have H1 : (some false) = some r := by rw [if_pos rfl] at H; exact H
                      clear H
                      have H := H1
                      clear H1
                      obtain rfl := Option.some.inj H
                      have hnb46 := NB188_173.out
                      have hnc46 := NB173_188.out
                      have hcz47_0 : wr.cell? ⟨gb188, 0, none⟩ = some (.int .i64 t181) := (blk_cell BK188.out 0).trans rfl
                      have hcz47_1 : wr.cell? ⟨gb188, 1, none⟩ = some (.int .i64 t182) := (blk_cell BK188.out 1).trans rfl
                      have hcz47_2 : wr.cell? ⟨gb188, 2, none⟩ = some (.int .u32 t183) := (blk_cell BK188.out 2).trans rfl
                      have hcz47_3 : wr.cell? ⟨gb188, 3, none⟩ = some (.int .i64 t184) := (blk_cell BK188.out 3).trans rfl
                      have hcz47_4 : wr.cell? ⟨gb188, 4, none⟩ = some (.int .i64 t185) := (blk_cell BK188.out 4).trans rfl
                      have hcz47_5 : wr.cell? ⟨gb188, 5, none⟩ = some (.int .i64 t186) := (blk_cell BK188.out 5).trans rfl
                      have hcz47_6 : wr.cell? ⟨gb188, 6, none⟩ = some (.int .i64 t187) := (blk_cell BK188.out 6).trans rfl
                      have hfz47_0 := blk_frozen BK188.out 0
                      have hfz47_1 := blk_frozen BK188.out 1
                      have hfz47_2 := blk_frozen BK188.out 2
                      have hfz47_3 := blk_frozen BK188.out 3
                      have hfz47_4 := blk_frozen BK188.out 4
                      have hfz47_5 := blk_frozen BK188.out 5
                      have hfz47_6 := blk_frozen BK188.out 6
                      try go_wp2_with (first | ((with_reducible refine gate_callee (f := 34) rfl ?_); refine goesL_ (some 19) rfl rfl Try.func34 (by kernel_rfl) rfl #[.agg #[.int .i64 t181, .int .i64 t182, .int .u32 t183, .int .i64 t184, .int .i64 t185, .int .i64 t186, .int .i64 t187]] rfl (by (try simp only [List.map_toArray, List.map_cons, List.map_nil]); first | done | rfl | (simp only [List.length_drop, List.length_take]; rfl)) ?_; (with_reducible refine (grid_Config_All.calls k2 t181 t182 t183 t184 t185 t186 t187 t191 _ A24.out).mono ?_); rintro e w48 ⟨rfl, hb⟩; refine ⟨_, rfl, ?_⟩; have n0_ := Aside0.mk (blk_below (g := gb173) (o := .cells #[.int .i64 a0_0, .int .i64 a0_1, .int .u32 a0_2, .int .i64 a0_3, .int .i64 a0_4, .int .i64 a0_5, .int .i64 a0_6] 52 (0, 0)) (by (with_reducible repeat (first | refine blk_drewN ?_ _ | refine blk_drew ?_ | refine blk_alloc ?_ _)); exact BK173.out) hb); have n1_ := Aside0.mk (blk_below (g := gb188) (o := .cells #[.int .i64 t181, .int .i64 t182, .int .u32 t183, .int .i64 t184, .int .i64 t185, .int .i64 t186, .int .i64 t187] 56 (0, 0)) (by (with_reducible repeat (first | refine blk_drewN ?_ _ | refine blk_drew ?_ | refine blk_alloc ?_ _)); exact BK188.out) hb); have n2_ := Aside0.mk (below_step (by repeat (first | (with_reducible first | exact HB.out | apply below_alloc | apply pw_below_drewN | apply below_drew1 | refine below_set ?_ GE173.out | refine below_set ?_ GE188.out) | exact HB.out)) hb); clear BK173; clear BK188; clear HB; have BK173 := n0_; have BK188 := n1_; have HB := n2_; clear n0_ n1_ n2_; (try clear hb); (try clear hb2); (try clear hk); (try clear hi)))
                      have n0_ := Aside0.mk (blk_drew BK173.out)
                      have n1_ := Aside0.mk (blk_drew BK188.out)
                      have n2_ := Aside0.mk (below_drew1 HB.out)
                      clear BK173
                      clear BK188
                      clear HB
                      have BK173 := n0_
                      have BK188 := n1_
                      have HB := n2_
                      clear n0_ n1_ n2_
                      refine start_ (n := 8) (S := fun w' => w'.cell? ⟨gb188, 0, none⟩ = some (.int .i64 t181) ∧ w'.cell? ⟨gb188, 1, none⟩ = some (.int .i64 t182) ∧ w'.cell? ⟨gb188, 2, none⟩ = some (.int .u32 t183) ∧ w'.cell? ⟨gb188, 3, none⟩ = some (.int .i64 t184) ∧ w'.cell? ⟨gb188, 4, none⟩ = some (.int .i64 t185) ∧ w'.cell? ⟨gb188, 5, none⟩ = some (.int .i64 t186) ∧ w'.cell? ⟨gb188, 6, none⟩ = some (.int .i64 t187)) (ds := []) #[false, false, false, false, false, false, false, false] (by kernel_rfl) rfl rfl ⟨(blk_cell BK188.out 0).trans rfl, (blk_cell BK188.out 1).trans rfl, (blk_cell BK188.out 2).trans rfl, (blk_cell BK188.out 3).trans rfl, (blk_cell BK188.out 4).trans rfl, (blk_cell BK188.out 5).trans rfl, (blk_cell BK188.out 6).trans rfl⟩ (fun hHeld => ?_); refine with_tabW chatelainetop_ChatelaineMeet.tab7 chatelainetop_ChatelaineMeet.bits7 (fun HT_ HW_ => ?_)
                      generalize w48.drew = w49 at BK173 BK188 HB hHeld ⊢
                      refine pure_ (i := 2) (N := some 25) (v := ?_) (a' := ?_) #[false, false, true, false, false, false, false, false] rfl rfl (any_of HT_.out (by kernel_rfl)) (fun _ _ _ h => h) (Or.inl ⟨by rfl, ?_⟩) ?_ ?_
                      rotate_left
                      · intro w'
                        go_simp
                        with_reducible rfl
                      rotate_left
                      · simp only [Act.put, List.setIfInBounds_toArray, List.set_cons_zero, List.set_cons_succ, i64_w, i32_w]
                        rfl
                      refine take_ (i := 0) (N := some 23) (v := ?_) (a' := ?_) #[true, false, true, false, false, false, false, false] rfl rfl (take_ofW HT_.out HW_.out (by kernel_rfl)) (fun _ _ _ h => h) (Or.inl ⟨by rfl, ?_⟩) hHeld ?_ ?_
                      rotate_left
                      · rintro w' ⟨s0, s1, s2, s3, s4, s5, s6⟩
                        go_simp
                        with_reducible rfl
                      rotate_left
                      · simp only [Act.put, List.setIfInBounds_toArray, List.set_cons_zero, List.set_cons_succ, i64_w, i32_w]
                        rfl
                      refine take_ (i := 4) (N := some 27) (v := ?_) (a' := ?_) #[true, false, true, false, true, false, false, false] rfl rfl (take_ofW HT_.out HW_.out (by kernel_rfl)) (fun _ _ _ h => h) (Or.inl ⟨by rfl, ?_⟩) hHeld ?_ ?_
                      rotate_left
                      · rintro w' ⟨s0, s1, s2, s3, s4, s5, s6⟩
                        go_simp
                        with_reducible rfl
                      rotate_left
                      · simp only [Act.put, List.setIfInBounds_toArray, List.set_cons_zero, List.set_cons_succ, i64_w, i32_w]
                        rfl
                      refine one_ (i := 1) (N := some 24) #[true, true, true, false, true, false, false, false] rfl rfl (one_of HT_.out (by kernel_rfl)) (by decide) (fun K hK => ?_)
                      refine goes_ Try.func34 (by kernel_rfl) rfl #[.agg #[.int .i64 t181, .int .i64 t182, .int .u32 t183, .int .i64 t184, .int .i64 t185, .int .i64 t186, .int .i64 t187]] (by rfl) rfl rfl (by (try simp only [List.map_toArray, List.map_cons, List.map_nil]); first | done | rfl | (simp only [List.length_drop, List.length_take]; rfl)) ?_
                      with_reducible refine (grid_Config_All.calls k2 t181 t182 t183 t184 t185 t186 t187 t192 _ A26.out).mono ?_
                      rintro e w50 ⟨rfl, hb⟩
                      refine ⟨_, rfl, ?_⟩
                      have n0_ := Aside0.mk (blk_below (g := gb173) (o := .cells #[.int .i64 a0_0, .int .i64 a0_1, .int .u32 a0_2, .int .i64 a0_3, .int .i64 a0_4, .int .i64 a0_5, .int .i64 a0_6] 52 (0, 0)) (by (with_reducible repeat (first | refine blk_drewN ?_ _ | refine blk_drew ?_ | refine blk_alloc ?_ _)); exact BK173.out) hb)
                      have n1_ := Aside0.mk (blk_below (g := gb188) (o := .cells #[.int .i64 t181, .int .i64 t182, .int .u32 t183, .int .i64 t184, .int .i64 t185, .int .i64 t186, .int .i64 t187] 56 (0, 0)) (by (with_reducible repeat (first | refine blk_drewN ?_ _ | refine blk_drew ?_ | refine blk_alloc ?_ _)); exact BK188.out) hb)
                      have n2_ := Aside0.mk (below_step (by repeat (first | (with_reducible first | exact HB.out | apply below_alloc | apply pw_below_drewN | apply below_drew1 | refine below_set ?_ GE173.out | refine below_set ?_ GE188.out) | exact HB.out)) hb)
                      clear BK173
                      clear BK188
                      clear HB
                      have BK173 := n0_
                      have BK188 := n1_
                      have HB := n2_
                      clear n0_ n1_ n2_
                      (try clear hb)
                      (try clear hb2)
                      (try clear hk)
                      (try clear hi)
                      refine hK.out _ _ ⟨(blk_cell BK188.out 0).trans rfl, (blk_cell BK188.out 1).trans rfl, (blk_cell BK188.out 2).trans rfl, (blk_cell BK188.out 3).trans rfl, (blk_cell BK188.out 4).trans rfl, (blk_cell BK188.out 5).trans rfl, (blk_cell BK188.out 6).trans rfl⟩ (fun hHeld => ?_)
                      clear hK K
                      refine norm_ (a' := ?_) ?_ ?_
                      rotate_left
                      · show Act.put _ (some 24) _ = _
                        simp only [Act.put, List.setIfInBounds_toArray, List.set_cons_zero, List.set_cons_succ, i64_w, i32_w]
                        rfl
                      refine pure_ (i := 3) (N := some 26) (v := ?_) (a' := ?_) #[true, true, true, true, true, false, false, false] rfl rfl (any_of HT_.out (by kernel_rfl)) (fun _ _ _ h => h) (Or.inl ⟨by rfl, ?_⟩) ?_ ?_
                      rotate_left
                      · intro w'
                        go_simp
                        with_reducible rfl
                      rotate_left
                      · simp only [Act.put, List.setIfInBounds_toArray, List.set_cons_zero, List.set_cons_succ, i64_w, i32_w]
                        rfl
                      refine one_ (i := 5) (N := some 28) #[true, true, true, true, true, true, false, false] rfl rfl (one_of HT_.out (by kernel_rfl)) (by decide) (fun K hK => ?_)
                      refine goes_ Try.func35 (by kernel_rfl) rfl #[.agg #[.int .i64 t181, .int .i64 t182, .int .u32 t183, .int .i64 t184, .int .i64 t185, .int .i64 t186, .int .i64 t187]] (by rfl) rfl rfl (by (try simp only [List.map_toArray, List.map_cons, List.map_nil]); first | done | rfl | (simp only [List.length_drop, List.length_take]; rfl)) ?_
                      with_reducible refine (grid_Config_Witnesses.calls k2 t181 t182 t183 t184 t185 t186 t187 t193 _ A27.out).mono ?_
                      rintro e w51 ⟨rfl, hb⟩
                      refine ⟨_, rfl, ?_⟩
                      have n0_ := Aside0.mk (blk_below (g := gb173) (o := .cells #[.int .i64 a0_0, .int .i64 a0_1, .int .u32 a0_2, .int .i64 a0_3, .int .i64 a0_4, .int .i64 a0_5, .int .i64 a0_6] 52 (0, 0)) (by (with_reducible repeat (first | refine blk_drewN ?_ _ | refine blk_drew ?_ | refine blk_alloc ?_ _)); exact BK173.out) hb)
                      have n1_ := Aside0.mk (blk_below (g := gb188) (o := .cells #[.int .i64 t181, .int .i64 t182, .int .u32 t183, .int .i64 t184, .int .i64 t185, .int .i64 t186, .int .i64 t187] 56 (0, 0)) (by (with_reducible repeat (first | refine blk_drewN ?_ _ | refine blk_drew ?_ | refine blk_alloc ?_ _)); exact BK188.out) hb)
                      have n2_ := Aside0.mk (below_step (by repeat (first | (with_reducible first | exact HB.out | apply below_alloc | apply pw_below_drewN | apply below_drew1 | refine below_set ?_ GE173.out | refine below_set ?_ GE188.out) | exact HB.out)) hb)
                      clear BK173
                      clear BK188
                      clear HB
                      have BK173 := n0_
                      have BK188 := n1_
                      have HB := n2_
                      clear n0_ n1_ n2_
                      (try clear hb)
                      (try clear hb2)
                      (try clear hk)
                      (try clear hi)
                      refine hK.out _ _ ⟨(blk_cell BK188.out 0).trans rfl, (blk_cell BK188.out 1).trans rfl, (blk_cell BK188.out 2).trans rfl, (blk_cell BK188.out 3).trans rfl, (blk_cell BK188.out 4).trans rfl, (blk_cell BK188.out 5).trans rfl, (blk_cell BK188.out 6).trans rfl⟩ (fun hHeld => ?_)
                      clear hK K
                      refine norm_ (a' := ?_) ?_ ?_
                      rotate_left
                      · show Act.put _ (some 28) _ = _
                        simp only [Act.put, List.setIfInBounds_toArray, List.set_cons_zero, List.set_cons_succ, i64_w, i32_w]
                        rfl
                      refine pure_ (i := 6) (N := some 29) (v := ?_) (a' := ?_) #[true, true, true, true, true, true, true, false] rfl rfl (any_of HT_.out (by kernel_rfl)) (fun _ _ _ h => h) (Or.inl ⟨by rfl, ?_⟩) ?_ ?_
                      rotate_left
                      · intro w'
                        go_simp
                        with_reducible rfl
                      rotate_left
                      · simp only [Act.put, List.setIfInBounds_toArray, List.set_cons_zero, List.set_cons_succ, i64_w, i32_w]
                        rfl
                      refine pure_ (i := 7) (N := some 5) (v := ?_) (a' := ?_) #[true, true, true, true, true, true, true, true] rfl rfl (any_of HT_.out (by kernel_rfl)) (fun _ _ _ h => h) (Or.inl ⟨by rfl, ?_⟩) ?_ ?_
                      rotate_left
                      · intro w'
                        go_simp
                        with_reducible rfl
                      rotate_left
                      · simp only [Act.put, List.setIfInBounds_toArray, List.set_cons_zero, List.set_cons_succ, i64_w, i32_w]
                        rfl
                      refine done_ (done_of HT_.out (by kernel_rfl)) ?_
                      have hcz52_0 : w51.cell? ⟨gb188, 0, none⟩ = some (.int .i64 t181) := (blk_cell BK188.out 0).trans rfl
                      have hcz52_1 : w51.cell? ⟨gb188, 1, none⟩ = some (.int .i64 t182) := (blk_cell BK188.out 1).trans rfl
                      have hcz52_2 : w51.cell? ⟨gb188, 2, none⟩ = some (.int .u32 t183) := (blk_cell BK188.out 2).trans rfl
                      have hcz52_3 : w51.cell? ⟨gb188, 3, none⟩ = some (.int .i64 t184) := (blk_cell BK188.out 3).trans rfl
                      have hcz52_4 : w51.cell? ⟨gb188, 4, none⟩ = some (.int .i64 t185) := (blk_cell BK188.out 4).trans rfl
                      have hcz52_5 : w51.cell? ⟨gb188, 5, none⟩ = some (.int .i64 t186) := (blk_cell BK188.out 5).trans rfl
                      have hcz52_6 : w51.cell? ⟨gb188, 6, none⟩ = some (.int .i64 t187) := (blk_cell BK188.out 6).trans rfl
                      have hfz52_0 := blk_frozen BK188.out 0
                      have hfz52_1 := blk_frozen BK188.out 1
                      have hfz52_2 := blk_frozen BK188.out 2
                      have hfz52_3 := blk_frozen BK188.out 3
                      have hfz52_4 := blk_frozen BK188.out 4
                      have hfz52_5 := blk_frozen BK188.out 5
                      have hfz52_6 := blk_frozen BK188.out 6
                      try go_wp2_with (first | ((with_reducible refine gate_callee (f := 31) rfl ?_); refine goesL_ (some 32) rfl rfl Try.func31 (by kernel_rfl) rfl #[.agg #[.int .i64 t181, .int .i64 t182, .int .u32 t183, .int .i64 t184, .int .i64 t185, .int .i64 t186, .int .i64 t187], .int .u32 x4_2] rfl (by (try simp only [List.map_toArray, List.map_cons, List.map_nil]); first | done | rfl | (simp only [List.length_drop, List.length_take]; rfl)) ?_; (with_reducible refine (grid_Config_IsFirst.calls k2 t181 t182 t183 t184 t185 t186 t187 x4_2 true _ A28.out).mono ?_); rintro e w53 ⟨rfl, hb⟩; refine ⟨_, rfl, ?_⟩; have n0_ := Aside0.mk (blk_below (g := gb173) (o := .cells #[.int .i64 a0_0, .int .i64 a0_1, .int .u32 a0_2, .int .i64 a0_3, .int .i64 a0_4, .int .i64 a0_5, .int .i64 a0_6] 52 (0, 0)) (by (with_reducible repeat (first | refine blk_drewN ?_ _ | refine blk_drew ?_ | refine blk_alloc ?_ _)); exact BK173.out) hb); have n1_ := Aside0.mk (blk_below (g := gb188) (o := .cells #[.int .i64 t181, .int .i64 t182, .int .u32 t183, .int .i64 t184, .int .i64 t185, .int .i64 t186, .int .i64 t187] 56 (0, 0)) (by (with_reducible repeat (first | refine blk_drewN ?_ _ | refine blk_drew ?_ | refine blk_alloc ?_ _)); exact BK188.out) hb); have n2_ := Aside0.mk (below_step (by repeat (first | (with_reducible first | exact HB.out | apply below_alloc | apply pw_below_drewN | apply below_drew1 | refine below_set ?_ GE173.out | refine below_set ?_ GE188.out) | exact HB.out)) hb); clear BK173; clear BK188; clear HB; have BK173 := n0_; have BK188 := n1_; have HB := n2_; clear n0_ n1_ n2_; (try clear hb); (try clear hb2); (try clear hk); (try clear hi); have hcz54_0 : w53.cell? ⟨gb188, 0, none⟩ = some (.int .i64 t181) := (blk_cell BK188.out 0).trans rfl; have hcz54_1 : w53.cell? ⟨gb188, 1, none⟩ = some (.int .i64 t182) := (blk_cell BK188.out 1).trans rfl; have hcz54_2 : w53.cell? ⟨gb188, 2, none⟩ = some (.int .u32 t183) := (blk_cell BK188.out 2).trans rfl; have hcz54_3 : w53.cell? ⟨gb188, 3, none⟩ = some (.int .i64 t184) := (blk_cell BK188.out 3).trans rfl; have hcz54_4 : w53.cell? ⟨gb188, 4, none⟩ = some (.int .i64 t185) := (blk_cell BK188.out 4).trans rfl; have hcz54_5 : w53.cell? ⟨gb188, 5, none⟩ = some (.int .i64 t186) := (blk_cell BK188.out 5).trans rfl; have hcz54_6 : w53.cell? ⟨gb188, 6, none⟩ = some (.int .i64 t187) := (blk_cell BK188.out 6).trans rfl; have hfz54_0 := blk_frozen BK188.out 0; have hfz54_1 := blk_frozen BK188.out 1; have hfz54_2 := blk_frozen BK188.out 2; have hfz54_3 := blk_frozen BK188.out 3; have hfz54_4 := blk_frozen BK188.out 4; have hfz54_5 := blk_frozen BK188.out 5; have hfz54_6 := blk_frozen BK188.out 6) | (go_at_call 33; (with_reducible refine (grid_Config_IsSecond.calls k2 t181 t182 t183 t184 t185 t186 t187 (Go.bits .or .u32 (Go.bits .andNot .u32 t192 x4_2) t193) false _ A30.out).mono ?_); rintro e w55 ⟨rfl, hb⟩; have n0_ := Aside0.mk (blk_below (g := gb173) (o := .cells #[.int .i64 a0_0, .int .i64 a0_1, .int .u32 a0_2, .int .i64 a0_3, .int .i64 a0_4, .int .i64 a0_5, .int .i64 a0_6] 52 (0, 0)) (by (with_reducible repeat (first | refine blk_drewN ?_ _ | refine blk_drew ?_ | refine blk_alloc ?_ _)); exact BK173.out) hb); have n1_ := Aside0.mk (blk_below (g := gb188) (o := .cells #[.int .i64 t181, .int .i64 t182, .int .u32 t183, .int .i64 t184, .int .i64 t185, .int .i64 t186, .int .i64 t187] 56 (0, 0)) (by (with_reducible repeat (first | refine blk_drewN ?_ _ | refine blk_drew ?_ | refine blk_alloc ?_ _)); exact BK188.out) hb); have n2_ := Aside0.mk (below_step (by repeat (first | (with_reducible first | exact HB.out | apply below_alloc | apply pw_below_drewN | apply below_drew1 | refine below_set ?_ GE173.out | refine below_set ?_ GE188.out) | exact HB.out)) hb); clear BK173; clear BK188; clear HB; have BK173 := n0_; have BK188 := n1_; have HB := n2_; clear n0_ n1_ n2_; (try clear hb); (try clear hb2); (try clear hk); (try clear hi); have hcz56_0 : w55.cell? ⟨gb188, 0, none⟩ = some (.int .i64 t181) := (blk_cell BK188.out 0).trans rfl; have hcz56_1 : w55.cell? ⟨gb188, 1, none⟩ = some (.int .i64 t182) := (blk_cell BK188.out 1).trans rfl; have hcz56_2 : w55.cell? ⟨gb188, 2, none⟩ = some (.int .u32 t183) := (blk_cell BK188.out 2).trans rfl; have hcz56_3 : w55.cell? ⟨gb188, 3, none⟩ = some (.int .i64 t184) := (blk_cell BK188.out 3).trans rfl; have hcz56_4 : w55.cell? ⟨gb188, 4, none⟩ = some (.int .i64 t185) := (blk_cell BK188.out 4).trans rfl; have hcz56_5 : w55.cell? ⟨gb188, 5, none⟩ = some (.int .i64 t186) := (blk_cell BK188.out 5).trans rfl; have hcz56_6 : w55.cell? ⟨gb188, 6, none⟩ = some (.int .i64 t187) := (blk_cell BK188.out 6).trans rfl; have hfz56_0 := blk_frozen BK188.out 0; have hfz56_1 := blk_frozen BK188.out 1; have hfz56_2 := blk_frozen BK188.out 2; have hfz56_3 := blk_frozen BK188.out 3; have hfz56_4 := blk_frozen BK188.out 4; have hfz56_5 := blk_frozen BK188.out 5; have hfz56_6 := blk_frozen BK188.out 6) | (go_at_call 33; (with_reducible refine (grid_Config_IsSecond.calls k2 t181 t182 t183 t184 t185 t186 t187 x4_2 true _ A42.out).mono ?_); rintro e w57 ⟨rfl, hb⟩; have n0_ := Aside0.mk (blk_below (g := gb173) (o := .cells #[.int .i64 a0_0, .int .i64 a0_1, .int .u32 a0_2, .int .i64 a0_3, .int .i64 a0_4, .int .i64 a0_5, .int .i64 a0_6] 52 (0, 0)) (by (with_reducible repeat (first | refine blk_drewN ?_ _ | refine blk_drew ?_ | refine blk_alloc ?_ _)); exact BK173.out) hb); have n1_ := Aside0.mk (blk_below (g := gb188) (o := .cells #[.int .i64 t181, .int .i64 t182, .int .u32 t183, .int .i64 t184, .int .i64 t185, .int .i64 t186, .int .i64 t187] 56 (0, 0)) (by (with_reducible repeat (first | refine blk_drewN ?_ _ | refine blk_drew ?_ | refine blk_alloc ?_ _)); exact BK188.out) hb); have n2_ := Aside0.mk (below_step (by repeat (first | (with_reducible first | exact HB.out | apply below_alloc | apply pw_below_drewN | apply below_drew1 | refine below_set ?_ GE173.out | refine below_set ?_ GE188.out) | exact HB.out)) hb); clear BK173; clear BK188; clear HB; have BK173 := n0_; have BK188 := n1_; have HB := n2_; clear n0_ n1_ n2_; (try clear hb); (try clear hb2); (try clear hk); (try clear hi); have hcz58_0 : w57.cell? ⟨gb188, 0, none⟩ = some (.int .i64 t181) := (blk_cell BK188.out 0).trans rfl; have hcz58_1 : w57.cell? ⟨gb188, 1, none⟩ = some (.int .i64 t182) := (blk_cell BK188.out 1).trans rfl; have hcz58_2 : w57.cell? ⟨gb188, 2, none⟩ = some (.int .u32 t183) := (blk_cell BK188.out 2).trans rfl; have hcz58_3 : w57.cell? ⟨gb188, 3, none⟩ = some (.int .i64 t184) := (blk_cell BK188.out 3).trans rfl; have hcz58_4 : w57.cell? ⟨gb188, 4, none⟩ = some (.int .i64 t185) := (blk_cell BK188.out 4).trans rfl; have hcz58_5 : w57.cell? ⟨gb188, 5, none⟩ = some (.int .i64 t186) := (blk_cell BK188.out 5).trans rfl; have hcz58_6 : w57.cell? ⟨gb188, 6, none⟩ = some (.int .i64 t187) := (blk_cell BK188.out 6).trans rfl; have hfz58_0 := blk_frozen BK188.out 0; have hfz58_1 := blk_frozen BK188.out 1; have hfz58_2 := blk_frozen BK188.out 2; have hfz58_3 := blk_frozen BK188.out 3; have hfz58_4 := blk_frozen BK188.out 4; have hfz58_5 := blk_frozen BK188.out 5; have hfz58_6 := blk_frozen BK188.out 6) | (go_at_call 31; (with_reducible refine (grid_Config_IsFirst.calls k2 t181 t182 t183 t184 t185 t186 t187 (Go.bits .or .u32 (Go.bits .andNot .u32 t192 x4_2) t193) true _ A44.out).mono ?_); rintro e w59 ⟨rfl, hb⟩; have n0_ := Aside0.mk (blk_below (g := gb173) (o := .cells #[.int .i64 a0_0, .int .i64 a0_1, .int .u32 a0_2, .int .i64 a0_3, .int .i64 a0_4, .int .i64 a0_5, .int .i64 a0_6] 52 (0, 0)) (by (with_reducible repeat (first | refine blk_drewN ?_ _ | refine blk_drew ?_ | refine blk_alloc ?_ _)); exact BK173.out) hb); have n1_ := Aside0.mk (blk_below (g := gb188) (o := .cells #[.int .i64 t181, .int .i64 t182, .int .u32 t183, .int .i64 t184, .int .i64 t185, .int .i64 t186, .int .i64 t187] 56 (0, 0)) (by (with_reducible repeat (first | refine blk_drewN ?_ _ | refine blk_drew ?_ | refine blk_alloc ?_ _)); exact BK188.out) hb); have n2_ := Aside0.mk (below_step (by repeat (first | (with_reducible first | exact HB.out | apply below_alloc | apply pw_below_drewN | apply below_drew1 | refine below_set ?_ GE173.out | refine below_set ?_ GE188.out) | exact HB.out)) hb); clear BK173; clear BK188; clear HB; have BK173 := n0_; have BK188 := n1_; have HB := n2_; clear n0_ n1_ n2_; (try clear hb); (try clear hb2); (try clear hk); (try clear hi)))
                      go_ret
                      exact ⟨by first | rfl | (simp [errW_none, errW_some] <;> rfl) | (simp [*, errW_none, errW_some] <;> rfl), by repeat (first | (with_reducible first | exact HB.out | apply below_alloc | apply pw_below_drewN | apply below_drew1 | refine below_set ?_ GE173.out | refine below_set ?_ GE188.out) | exact HB.out)⟩
                    · replace c45 := Bool.eq_false_iff.mpr c45
                      subst c45
                      have H1 : (chatelainetop_ChatelaineMeet.l0 k2 ((x4_2 + 1) % 4294967296) t181 t182 t183 t184 t185 t186 t187) = some r := by rw [if_neg (show ¬ (false = true) by decide)] at H; exact H
                      clear H
                      have H := H1
                      clear H1
                      have H' := Aside0.mk H
                      clear H
                      have hnb60 := NB188_173.out
                      have hnc60 := NB173_188.out
                      have hcz61_0 : wr.cell? ⟨gb188, 0, none⟩ = some (.int .i64 t181) := (blk_cell BK188.out 0).trans rfl
                      have hcz61_1 : wr.cell? ⟨gb188, 1, none⟩ = some (.int .i64 t182) := (blk_cell BK188.out 1).trans rfl
                      have hcz61_2 : wr.cell? ⟨gb188, 2, none⟩ = some (.int .u32 t183) := (blk_cell BK188.out 2).trans rfl
                      have hcz61_3 : wr.cell? ⟨gb188, 3, none⟩ = some (.int .i64 t184) := (blk_cell BK188.out 3).trans rfl
                      have hcz61_4 : wr.cell? ⟨gb188, 4, none⟩ = some (.int .i64 t185) := (blk_cell BK188.out 4).trans rfl
                      have hcz61_5 : wr.cell? ⟨gb188, 5, none⟩ = some (.int .i64 t186) := (blk_cell BK188.out 5).trans rfl
                      have hcz61_6 : wr.cell? ⟨gb188, 6, none⟩ = some (.int .i64 t187) := (blk_cell BK188.out 6).trans rfl
                      have hfz61_0 := blk_frozen BK188.out 0
                      have hfz61_1 := blk_frozen BK188.out 1
                      have hfz61_2 := blk_frozen BK188.out 2
                      have hfz61_3 := blk_frozen BK188.out 3
                      have hfz61_4 := blk_frozen BK188.out 4
                      have hfz61_5 := blk_frozen BK188.out 5
                      have hfz61_6 := blk_frozen BK188.out 6
                      try go_wp2_with (first | ((with_reducible refine gate_callee (f := 34) rfl ?_); refine goesL_ (some 19) rfl rfl Try.func34 (by kernel_rfl) rfl #[.agg #[.int .i64 t181, .int .i64 t182, .int .u32 t183, .int .i64 t184, .int .i64 t185, .int .i64 t186, .int .i64 t187]] rfl (by (try simp only [List.map_toArray, List.map_cons, List.map_nil]); first | done | rfl | (simp only [List.length_drop, List.length_take]; rfl)) ?_; (with_reducible refine (grid_Config_All.calls k2 t181 t182 t183 t184 t185 t186 t187 t191 _ A24.out).mono ?_); rintro e w62 ⟨rfl, hb⟩; refine ⟨_, rfl, ?_⟩; have n0_ := Aside0.mk (blk_below (g := gb173) (o := .cells #[.int .i64 a0_0, .int .i64 a0_1, .int .u32 a0_2, .int .i64 a0_3, .int .i64 a0_4, .int .i64 a0_5, .int .i64 a0_6] 52 (0, 0)) (by (with_reducible repeat (first | refine blk_drewN ?_ _ | refine blk_drew ?_ | refine blk_alloc ?_ _)); exact BK173.out) hb); have n1_ := Aside0.mk (blk_below (g := gb188) (o := .cells #[.int .i64 t181, .int .i64 t182, .int .u32 t183, .int .i64 t184, .int .i64 t185, .int .i64 t186, .int .i64 t187] 56 (0, 0)) (by (with_reducible repeat (first | refine blk_drewN ?_ _ | refine blk_drew ?_ | refine blk_alloc ?_ _)); exact BK188.out) hb); have n2_ := Aside0.mk (below_step (by repeat (first | (with_reducible first | exact HB.out | apply below_alloc | apply pw_below_drewN | apply below_drew1 | refine below_set ?_ GE173.out | refine below_set ?_ GE188.out) | exact HB.out)) hb); clear BK173; clear BK188; clear HB; have BK173 := n0_; have BK188 := n1_; have HB := n2_; clear n0_ n1_ n2_; (try clear hb); (try clear hb2); (try clear hk); (try clear hi)))
                      have n0_ := Aside0.mk (blk_drew BK173.out)
                      have n1_ := Aside0.mk (blk_drew BK188.out)
                      have n2_ := Aside0.mk (below_drew1 HB.out)
                      clear BK173
                      clear BK188
                      clear HB
                      have BK173 := n0_
                      have BK188 := n1_
                      have HB := n2_
                      clear n0_ n1_ n2_
                      refine start_ (n := 8) (S := fun w' => w'.cell? ⟨gb188, 0, none⟩ = some (.int .i64 t181) ∧ w'.cell? ⟨gb188, 1, none⟩ = some (.int .i64 t182) ∧ w'.cell? ⟨gb188, 2, none⟩ = some (.int .u32 t183) ∧ w'.cell? ⟨gb188, 3, none⟩ = some (.int .i64 t184) ∧ w'.cell? ⟨gb188, 4, none⟩ = some (.int .i64 t185) ∧ w'.cell? ⟨gb188, 5, none⟩ = some (.int .i64 t186) ∧ w'.cell? ⟨gb188, 6, none⟩ = some (.int .i64 t187)) (ds := []) #[false, false, false, false, false, false, false, false] (by kernel_rfl) rfl rfl ⟨(blk_cell BK188.out 0).trans rfl, (blk_cell BK188.out 1).trans rfl, (blk_cell BK188.out 2).trans rfl, (blk_cell BK188.out 3).trans rfl, (blk_cell BK188.out 4).trans rfl, (blk_cell BK188.out 5).trans rfl, (blk_cell BK188.out 6).trans rfl⟩ (fun hHeld => ?_); refine with_tabW chatelainetop_ChatelaineMeet.tab7 chatelainetop_ChatelaineMeet.bits7 (fun HT_ HW_ => ?_)
                      generalize w62.drew = w63 at BK173 BK188 HB hHeld ⊢
                      refine pure_ (i := 2) (N := some 25) (v := ?_) (a' := ?_) #[false, false, true, false, false, false, false, false] rfl rfl (any_of HT_.out (by kernel_rfl)) (fun _ _ _ h => h) (Or.inl ⟨by rfl, ?_⟩) ?_ ?_
                      rotate_left
                      · intro w'
                        go_simp
                        with_reducible rfl
                      rotate_left
                      · simp only [Act.put, List.setIfInBounds_toArray, List.set_cons_zero, List.set_cons_succ, i64_w, i32_w]
                        rfl
                      refine take_ (i := 0) (N := some 23) (v := ?_) (a' := ?_) #[true, false, true, false, false, false, false, false] rfl rfl (take_ofW HT_.out HW_.out (by kernel_rfl)) (fun _ _ _ h => h) (Or.inl ⟨by rfl, ?_⟩) hHeld ?_ ?_
                      rotate_left
                      · rintro w' ⟨s0, s1, s2, s3, s4, s5, s6⟩
                        go_simp
                        with_reducible rfl
                      rotate_left
                      · simp only [Act.put, List.setIfInBounds_toArray, List.set_cons_zero, List.set_cons_succ, i64_w, i32_w]
                        rfl
                      refine take_ (i := 4) (N := some 27) (v := ?_) (a' := ?_) #[true, false, true, false, true, false, false, false] rfl rfl (take_ofW HT_.out HW_.out (by kernel_rfl)) (fun _ _ _ h => h) (Or.inl ⟨by rfl, ?_⟩) hHeld ?_ ?_
                      rotate_left
                      · rintro w' ⟨s0, s1, s2, s3, s4, s5, s6⟩
                        go_simp
                        with_reducible rfl
                      rotate_left
                      · simp only [Act.put, List.setIfInBounds_toArray, List.set_cons_zero, List.set_cons_succ, i64_w, i32_w]
                        rfl
                      refine one_ (i := 1) (N := some 24) #[true, true, true, false, true, false, false, false] rfl rfl (one_of HT_.out (by kernel_rfl)) (by decide) (fun K hK => ?_)
                      refine goes_ Try.func34 (by kernel_rfl) rfl #[.agg #[.int .i64 t181, .int .i64 t182, .int .u32 t183, .int .i64 t184, .int .i64 t185, .int .i64 t186, .int .i64 t187]] (by rfl) rfl rfl (by (try simp only [List.map_toArray, List.map_cons, List.map_nil]); first | done | rfl | (simp only [List.length_drop, List.length_take]; rfl)) ?_
                      with_reducible refine (grid_Config_All.calls k2 t181 t182 t183 t184 t185 t186 t187 t192 _ A26.out).mono ?_
                      rintro e w64 ⟨rfl, hb⟩
                      refine ⟨_, rfl, ?_⟩
                      have n0_ := Aside0.mk (blk_below (g := gb173) (o := .cells #[.int .i64 a0_0, .int .i64 a0_1, .int .u32 a0_2, .int .i64 a0_3, .int .i64 a0_4, .int .i64 a0_5, .int .i64 a0_6] 52 (0, 0)) (by (with_reducible repeat (first | refine blk_drewN ?_ _ | refine blk_drew ?_ | refine blk_alloc ?_ _)); exact BK173.out) hb)
                      have n1_ := Aside0.mk (blk_below (g := gb188) (o := .cells #[.int .i64 t181, .int .i64 t182, .int .u32 t183, .int .i64 t184, .int .i64 t185, .int .i64 t186, .int .i64 t187] 56 (0, 0)) (by (with_reducible repeat (first | refine blk_drewN ?_ _ | refine blk_drew ?_ | refine blk_alloc ?_ _)); exact BK188.out) hb)
                      have n2_ := Aside0.mk (below_step (by repeat (first | (with_reducible first | exact HB.out | apply below_alloc | apply pw_below_drewN | apply below_drew1 | refine below_set ?_ GE173.out | refine below_set ?_ GE188.out) | exact HB.out)) hb)
                      clear BK173
                      clear BK188
                      clear HB
                      have BK173 := n0_
                      have BK188 := n1_
                      have HB := n2_
                      clear n0_ n1_ n2_
                      (try clear hb)
                      (try clear hb2)
                      (try clear hk)
                      (try clear hi)
                      refine hK.out _ _ ⟨(blk_cell BK188.out 0).trans rfl, (blk_cell BK188.out 1).trans rfl, (blk_cell BK188.out 2).trans rfl, (blk_cell BK188.out 3).trans rfl, (blk_cell BK188.out 4).trans rfl, (blk_cell BK188.out 5).trans rfl, (blk_cell BK188.out 6).trans rfl⟩ (fun hHeld => ?_)
                      clear hK K
                      refine norm_ (a' := ?_) ?_ ?_
                      rotate_left
                      · show Act.put _ (some 24) _ = _
                        simp only [Act.put, List.setIfInBounds_toArray, List.set_cons_zero, List.set_cons_succ, i64_w, i32_w]
                        rfl
                      refine pure_ (i := 3) (N := some 26) (v := ?_) (a' := ?_) #[true, true, true, true, true, false, false, false] rfl rfl (any_of HT_.out (by kernel_rfl)) (fun _ _ _ h => h) (Or.inl ⟨by rfl, ?_⟩) ?_ ?_
                      rotate_left
                      · intro w'
                        go_simp
                        with_reducible rfl
                      rotate_left
                      · simp only [Act.put, List.setIfInBounds_toArray, List.set_cons_zero, List.set_cons_succ, i64_w, i32_w]
                        rfl
                      refine one_ (i := 5) (N := some 28) #[true, true, true, true, true, true, false, false] rfl rfl (one_of HT_.out (by kernel_rfl)) (by decide) (fun K hK => ?_)
                      refine goes_ Try.func35 (by kernel_rfl) rfl #[.agg #[.int .i64 t181, .int .i64 t182, .int .u32 t183, .int .i64 t184, .int .i64 t185, .int .i64 t186, .int .i64 t187]] (by rfl) rfl rfl (by (try simp only [List.map_toArray, List.map_cons, List.map_nil]); first | done | rfl | (simp only [List.length_drop, List.length_take]; rfl)) ?_
                      with_reducible refine (grid_Config_Witnesses.calls k2 t181 t182 t183 t184 t185 t186 t187 t193 _ A27.out).mono ?_
                      rintro e w65 ⟨rfl, hb⟩
                      refine ⟨_, rfl, ?_⟩
                      have n0_ := Aside0.mk (blk_below (g := gb173) (o := .cells #[.int .i64 a0_0, .int .i64 a0_1, .int .u32 a0_2, .int .i64 a0_3, .int .i64 a0_4, .int .i64 a0_5, .int .i64 a0_6] 52 (0, 0)) (by (with_reducible repeat (first | refine blk_drewN ?_ _ | refine blk_drew ?_ | refine blk_alloc ?_ _)); exact BK173.out) hb)
                      have n1_ := Aside0.mk (blk_below (g := gb188) (o := .cells #[.int .i64 t181, .int .i64 t182, .int .u32 t183, .int .i64 t184, .int .i64 t185, .int .i64 t186, .int .i64 t187] 56 (0, 0)) (by (with_reducible repeat (first | refine blk_drewN ?_ _ | refine blk_drew ?_ | refine blk_alloc ?_ _)); exact BK188.out) hb)
                      have n2_ := Aside0.mk (below_step (by repeat (first | (with_reducible first | exact HB.out | apply below_alloc | apply pw_below_drewN | apply below_drew1 | refine below_set ?_ GE173.out | refine below_set ?_ GE188.out) | exact HB.out)) hb)
                      clear BK173
                      clear BK188
                      clear HB
                      have BK173 := n0_
                      have BK188 := n1_
                      have HB := n2_
                      clear n0_ n1_ n2_
                      (try clear hb)
                      (try clear hb2)
                      (try clear hk)
                      (try clear hi)
                      refine hK.out _ _ ⟨(blk_cell BK188.out 0).trans rfl, (blk_cell BK188.out 1).trans rfl, (blk_cell BK188.out 2).trans rfl, (blk_cell BK188.out 3).trans rfl, (blk_cell BK188.out 4).trans rfl, (blk_cell BK188.out 5).trans rfl, (blk_cell BK188.out 6).trans rfl⟩ (fun hHeld => ?_)
                      clear hK K
                      refine norm_ (a' := ?_) ?_ ?_
                      rotate_left
                      · show Act.put _ (some 28) _ = _
                        simp only [Act.put, List.setIfInBounds_toArray, List.set_cons_zero, List.set_cons_succ, i64_w, i32_w]
                        rfl
                      refine pure_ (i := 6) (N := some 29) (v := ?_) (a' := ?_) #[true, true, true, true, true, true, true, false] rfl rfl (any_of HT_.out (by kernel_rfl)) (fun _ _ _ h => h) (Or.inl ⟨by rfl, ?_⟩) ?_ ?_
                      rotate_left
                      · intro w'
                        go_simp
                        with_reducible rfl
                      rotate_left
                      · simp only [Act.put, List.setIfInBounds_toArray, List.set_cons_zero, List.set_cons_succ, i64_w, i32_w]
                        rfl
                      refine pure_ (i := 7) (N := some 5) (v := ?_) (a' := ?_) #[true, true, true, true, true, true, true, true] rfl rfl (any_of HT_.out (by kernel_rfl)) (fun _ _ _ h => h) (Or.inl ⟨by rfl, ?_⟩) ?_ ?_
                      rotate_left
                      · intro w'
                        go_simp
                        with_reducible rfl
                      rotate_left
                      · simp only [Act.put, List.setIfInBounds_toArray, List.set_cons_zero, List.set_cons_succ, i64_w, i32_w]
                        rfl
                      refine done_ (done_of HT_.out (by kernel_rfl)) ?_
                      have hcz66_0 : w65.cell? ⟨gb188, 0, none⟩ = some (.int .i64 t181) := (blk_cell BK188.out 0).trans rfl
                      have hcz66_1 : w65.cell? ⟨gb188, 1, none⟩ = some (.int .i64 t182) := (blk_cell BK188.out 1).trans rfl
                      have hcz66_2 : w65.cell? ⟨gb188, 2, none⟩ = some (.int .u32 t183) := (blk_cell BK188.out 2).trans rfl
                      have hcz66_3 : w65.cell? ⟨gb188, 3, none⟩ = some (.int .i64 t184) := (blk_cell BK188.out 3).trans rfl
                      have hcz66_4 : w65.cell? ⟨gb188, 4, none⟩ = some (.int .i64 t185) := (blk_cell BK188.out 4).trans rfl
                      have hcz66_5 : w65.cell? ⟨gb188, 5, none⟩ = some (.int .i64 t186) := (blk_cell BK188.out 5).trans rfl
                      have hcz66_6 : w65.cell? ⟨gb188, 6, none⟩ = some (.int .i64 t187) := (blk_cell BK188.out 6).trans rfl
                      have hfz66_0 := blk_frozen BK188.out 0
                      have hfz66_1 := blk_frozen BK188.out 1
                      have hfz66_2 := blk_frozen BK188.out 2
                      have hfz66_3 := blk_frozen BK188.out 3
                      have hfz66_4 := blk_frozen BK188.out 4
                      have hfz66_5 := blk_frozen BK188.out 5
                      have hfz66_6 := blk_frozen BK188.out 6
                      try go_wp2_with (first | ((with_reducible refine gate_callee (f := 31) rfl ?_); refine goesL_ (some 32) rfl rfl Try.func31 (by kernel_rfl) rfl #[.agg #[.int .i64 t181, .int .i64 t182, .int .u32 t183, .int .i64 t184, .int .i64 t185, .int .i64 t186, .int .i64 t187], .int .u32 x4_2] rfl (by (try simp only [List.map_toArray, List.map_cons, List.map_nil]); first | done | rfl | (simp only [List.length_drop, List.length_take]; rfl)) ?_; (with_reducible refine (grid_Config_IsFirst.calls k2 t181 t182 t183 t184 t185 t186 t187 x4_2 true _ A28.out).mono ?_); rintro e w67 ⟨rfl, hb⟩; refine ⟨_, rfl, ?_⟩; have n0_ := Aside0.mk (blk_below (g := gb173) (o := .cells #[.int .i64 a0_0, .int .i64 a0_1, .int .u32 a0_2, .int .i64 a0_3, .int .i64 a0_4, .int .i64 a0_5, .int .i64 a0_6] 52 (0, 0)) (by (with_reducible repeat (first | refine blk_drewN ?_ _ | refine blk_drew ?_ | refine blk_alloc ?_ _)); exact BK173.out) hb); have n1_ := Aside0.mk (blk_below (g := gb188) (o := .cells #[.int .i64 t181, .int .i64 t182, .int .u32 t183, .int .i64 t184, .int .i64 t185, .int .i64 t186, .int .i64 t187] 56 (0, 0)) (by (with_reducible repeat (first | refine blk_drewN ?_ _ | refine blk_drew ?_ | refine blk_alloc ?_ _)); exact BK188.out) hb); have n2_ := Aside0.mk (below_step (by repeat (first | (with_reducible first | exact HB.out | apply below_alloc | apply pw_below_drewN | apply below_drew1 | refine below_set ?_ GE173.out | refine below_set ?_ GE188.out) | exact HB.out)) hb); clear BK173; clear BK188; clear HB; have BK173 := n0_; have BK188 := n1_; have HB := n2_; clear n0_ n1_ n2_; (try clear hb); (try clear hb2); (try clear hk); (try clear hi); have hcz68_0 : w67.cell? ⟨gb188, 0, none⟩ = some (.int .i64 t181) := (blk_cell BK188.out 0).trans rfl; have hcz68_1 : w67.cell? ⟨gb188, 1, none⟩ = some (.int .i64 t182) := (blk_cell BK188.out 1).trans rfl; have hcz68_2 : w67.cell? ⟨gb188, 2, none⟩ = some (.int .u32 t183) := (blk_cell BK188.out 2).trans rfl; have hcz68_3 : w67.cell? ⟨gb188, 3, none⟩ = some (.int .i64 t184) := (blk_cell BK188.out 3).trans rfl; have hcz68_4 : w67.cell? ⟨gb188, 4, none⟩ = some (.int .i64 t185) := (blk_cell BK188.out 4).trans rfl; have hcz68_5 : w67.cell? ⟨gb188, 5, none⟩ = some (.int .i64 t186) := (blk_cell BK188.out 5).trans rfl; have hcz68_6 : w67.cell? ⟨gb188, 6, none⟩ = some (.int .i64 t187) := (blk_cell BK188.out 6).trans rfl; have hfz68_0 := blk_frozen BK188.out 0; have hfz68_1 := blk_frozen BK188.out 1; have hfz68_2 := blk_frozen BK188.out 2; have hfz68_3 := blk_frozen BK188.out 3; have hfz68_4 := blk_frozen BK188.out 4; have hfz68_5 := blk_frozen BK188.out 5; have hfz68_6 := blk_frozen BK188.out 6) | (go_at_call 33; (with_reducible refine (grid_Config_IsSecond.calls k2 t181 t182 t183 t184 t185 t186 t187 (Go.bits .or .u32 (Go.bits .andNot .u32 t192 x4_2) t193) false _ A30.out).mono ?_); rintro e w69 ⟨rfl, hb⟩; have n0_ := Aside0.mk (blk_below (g := gb173) (o := .cells #[.int .i64 a0_0, .int .i64 a0_1, .int .u32 a0_2, .int .i64 a0_3, .int .i64 a0_4, .int .i64 a0_5, .int .i64 a0_6] 52 (0, 0)) (by (with_reducible repeat (first | refine blk_drewN ?_ _ | refine blk_drew ?_ | refine blk_alloc ?_ _)); exact BK173.out) hb); have n1_ := Aside0.mk (blk_below (g := gb188) (o := .cells #[.int .i64 t181, .int .i64 t182, .int .u32 t183, .int .i64 t184, .int .i64 t185, .int .i64 t186, .int .i64 t187] 56 (0, 0)) (by (with_reducible repeat (first | refine blk_drewN ?_ _ | refine blk_drew ?_ | refine blk_alloc ?_ _)); exact BK188.out) hb); have n2_ := Aside0.mk (below_step (by repeat (first | (with_reducible first | exact HB.out | apply below_alloc | apply pw_below_drewN | apply below_drew1 | refine below_set ?_ GE173.out | refine below_set ?_ GE188.out) | exact HB.out)) hb); clear BK173; clear BK188; clear HB; have BK173 := n0_; have BK188 := n1_; have HB := n2_; clear n0_ n1_ n2_; (try clear hb); (try clear hb2); (try clear hk); (try clear hi); have hcz70_0 : w69.cell? ⟨gb188, 0, none⟩ = some (.int .i64 t181) := (blk_cell BK188.out 0).trans rfl; have hcz70_1 : w69.cell? ⟨gb188, 1, none⟩ = some (.int .i64 t182) := (blk_cell BK188.out 1).trans rfl; have hcz70_2 : w69.cell? ⟨gb188, 2, none⟩ = some (.int .u32 t183) := (blk_cell BK188.out 2).trans rfl; have hcz70_3 : w69.cell? ⟨gb188, 3, none⟩ = some (.int .i64 t184) := (blk_cell BK188.out 3).trans rfl; have hcz70_4 : w69.cell? ⟨gb188, 4, none⟩ = some (.int .i64 t185) := (blk_cell BK188.out 4).trans rfl; have hcz70_5 : w69.cell? ⟨gb188, 5, none⟩ = some (.int .i64 t186) := (blk_cell BK188.out 5).trans rfl; have hcz70_6 : w69.cell? ⟨gb188, 6, none⟩ = some (.int .i64 t187) := (blk_cell BK188.out 6).trans rfl; have hfz70_0 := blk_frozen BK188.out 0; have hfz70_1 := blk_frozen BK188.out 1; have hfz70_2 := blk_frozen BK188.out 2; have hfz70_3 := blk_frozen BK188.out 3; have hfz70_4 := blk_frozen BK188.out 4; have hfz70_5 := blk_frozen BK188.out 5; have hfz70_6 := blk_frozen BK188.out 6) | (go_at_call 33; (with_reducible refine (grid_Config_IsSecond.calls k2 t181 t182 t183 t184 t185 t186 t187 x4_2 true _ A42.out).mono ?_); rintro e w71 ⟨rfl, hb⟩; have n0_ := Aside0.mk (blk_below (g := gb173) (o := .cells #[.int .i64 a0_0, .int .i64 a0_1, .int .u32 a0_2, .int .i64 a0_3, .int .i64 a0_4, .int .i64 a0_5, .int .i64 a0_6] 52 (0, 0)) (by (with_reducible repeat (first | refine blk_drewN ?_ _ | refine blk_drew ?_ | refine blk_alloc ?_ _)); exact BK173.out) hb); have n1_ := Aside0.mk (blk_below (g := gb188) (o := .cells #[.int .i64 t181, .int .i64 t182, .int .u32 t183, .int .i64 t184, .int .i64 t185, .int .i64 t186, .int .i64 t187] 56 (0, 0)) (by (with_reducible repeat (first | refine blk_drewN ?_ _ | refine blk_drew ?_ | refine blk_alloc ?_ _)); exact BK188.out) hb); have n2_ := Aside0.mk (below_step (by repeat (first | (with_reducible first | exact HB.out | apply below_alloc | apply pw_below_drewN | apply below_drew1 | refine below_set ?_ GE173.out | refine below_set ?_ GE188.out) | exact HB.out)) hb); clear BK173; clear BK188; clear HB; have BK173 := n0_; have BK188 := n1_; have HB := n2_; clear n0_ n1_ n2_; (try clear hb); (try clear hb2); (try clear hk); (try clear hi); have hcz72_0 : w71.cell? ⟨gb188, 0, none⟩ = some (.int .i64 t181) := (blk_cell BK188.out 0).trans rfl; have hcz72_1 : w71.cell? ⟨gb188, 1, none⟩ = some (.int .i64 t182) := (blk_cell BK188.out 1).trans rfl; have hcz72_2 : w71.cell? ⟨gb188, 2, none⟩ = some (.int .u32 t183) := (blk_cell BK188.out 2).trans rfl; have hcz72_3 : w71.cell? ⟨gb188, 3, none⟩ = some (.int .i64 t184) := (blk_cell BK188.out 3).trans rfl; have hcz72_4 : w71.cell? ⟨gb188, 4, none⟩ = some (.int .i64 t185) := (blk_cell BK188.out 4).trans rfl; have hcz72_5 : w71.cell? ⟨gb188, 5, none⟩ = some (.int .i64 t186) := (blk_cell BK188.out 5).trans rfl; have hcz72_6 : w71.cell? ⟨gb188, 6, none⟩ = some (.int .i64 t187) := (blk_cell BK188.out 6).trans rfl; have hfz72_0 := blk_frozen BK188.out 0; have hfz72_1 := blk_frozen BK188.out 1; have hfz72_2 := blk_frozen BK188.out 2; have hfz72_3 := blk_frozen BK188.out 3; have hfz72_4 := blk_frozen BK188.out 4; have hfz72_5 := blk_frozen BK188.out 5; have hfz72_6 := blk_frozen BK188.out 6) | (go_at_call 31; (with_reducible refine (grid_Config_IsFirst.calls k2 t181 t182 t183 t184 t185 t186 t187 (Go.bits .or .u32 (Go.bits .andNot .u32 t192 x4_2) t193) false _ A44.out).mono ?_); rintro e w73 ⟨rfl, hb⟩; have n0_ := Aside0.mk (blk_below (g := gb173) (o := .cells #[.int .i64 a0_0, .int .i64 a0_1, .int .u32 a0_2, .int .i64 a0_3, .int .i64 a0_4, .int .i64 a0_5, .int .i64 a0_6] 52 (0, 0)) (by (with_reducible repeat (first | refine blk_drewN ?_ _ | refine blk_drew ?_ | refine blk_alloc ?_ _)); exact BK173.out) hb); have n1_ := Aside0.mk (blk_below (g := gb188) (o := .cells #[.int .i64 t181, .int .i64 t182, .int .u32 t183, .int .i64 t184, .int .i64 t185, .int .i64 t186, .int .i64 t187] 56 (0, 0)) (by (with_reducible repeat (first | refine blk_drewN ?_ _ | refine blk_drew ?_ | refine blk_alloc ?_ _)); exact BK188.out) hb); have n2_ := Aside0.mk (below_step (by repeat (first | (with_reducible first | exact HB.out | apply below_alloc | apply pw_below_drewN | apply below_drew1 | refine below_set ?_ GE173.out | refine below_set ?_ GE188.out) | exact HB.out)) hb); clear BK173; clear BK188; clear HB; have BK173 := n0_; have BK188 := n1_; have HB := n2_; clear n0_ n1_ n2_; (try clear hb); (try clear hb2); (try clear hk); (try clear hi)))
                      go_roundg k2
                      case measure => have := HJ3.out; have := HK2.out; omega
                      case rel => exact ⟨((x4_2 + 1) % 4294967296), (by first | rfl | (simp; done) | (simp [*]; done)), H', ⟨by have := HJ3.out; have := HK2.out; omega⟩, ⟨by (with_reducible repeat (first | refine blk_drewN ?_ _ | refine blk_drew ?_ | refine blk_alloc ?_ _)); exact BK173.out⟩, ⟨by (with_reducible repeat (first | refine blk_drewN ?_ _ | refine blk_drew ?_ | refine blk_alloc ?_ _)); exact BK188.out⟩, ⟨by repeat (first | (with_reducible first | exact HB.out | apply below_alloc | apply pw_below_drewN | apply below_drew1 | refine below_set ?_ GE173.out | refine below_set ?_ GE188.out) | exact HB.out)⟩⟩
                  · replace c43 := Bool.eq_false_iff.mpr c43
                    subst c43
                    have H1 : (chatelainetop_ChatelaineMeet.l0 k2 ((x4_2 + 1) % 4294967296) t181 t182 t183 t184 t185 t186 t187) = some r := by rw [if_neg (show ¬ (false = true) by decide)] at H; exact H
                    clear H
                    have H := H1
                    clear H1
                    have H' := Aside0.mk H
                    clear H
                    have hnb74 := NB188_173.out
                    have hnc74 := NB173_188.out
                    have hcz75_0 : wr.cell? ⟨gb188, 0, none⟩ = some (.int .i64 t181) := (blk_cell BK188.out 0).trans rfl
                    have hcz75_1 : wr.cell? ⟨gb188, 1, none⟩ = some (.int .i64 t182) := (blk_cell BK188.out 1).trans rfl
                    have hcz75_2 : wr.cell? ⟨gb188, 2, none⟩ = some (.int .u32 t183) := (blk_cell BK188.out 2).trans rfl
                    have hcz75_3 : wr.cell? ⟨gb188, 3, none⟩ = some (.int .i64 t184) := (blk_cell BK188.out 3).trans rfl
                    have hcz75_4 : wr.cell? ⟨gb188, 4, none⟩ = some (.int .i64 t185) := (blk_cell BK188.out 4).trans rfl
                    have hcz75_5 : wr.cell? ⟨gb188, 5, none⟩ = some (.int .i64 t186) := (blk_cell BK188.out 5).trans rfl
                    have hcz75_6 : wr.cell? ⟨gb188, 6, none⟩ = some (.int .i64 t187) := (blk_cell BK188.out 6).trans rfl
                    have hfz75_0 := blk_frozen BK188.out 0
                    have hfz75_1 := blk_frozen BK188.out 1
                    have hfz75_2 := blk_frozen BK188.out 2
                    have hfz75_3 := blk_frozen BK188.out 3
                    have hfz75_4 := blk_frozen BK188.out 4
                    have hfz75_5 := blk_frozen BK188.out 5
                    have hfz75_6 := blk_frozen BK188.out 6
                    try go_wp2_with (first | ((with_reducible refine gate_callee (f := 34) rfl ?_); refine goesL_ (some 19) rfl rfl Try.func34 (by kernel_rfl) rfl #[.agg #[.int .i64 t181, .int .i64 t182, .int .u32 t183, .int .i64 t184, .int .i64 t185, .int .i64 t186, .int .i64 t187]] rfl (by (try simp only [List.map_toArray, List.map_cons, List.map_nil]); first | done | rfl | (simp only [List.length_drop, List.length_take]; rfl)) ?_; (with_reducible refine (grid_Config_All.calls k2 t181 t182 t183 t184 t185 t186 t187 t191 _ A24.out).mono ?_); rintro e w76 ⟨rfl, hb⟩; refine ⟨_, rfl, ?_⟩; have n0_ := Aside0.mk (blk_below (g := gb173) (o := .cells #[.int .i64 a0_0, .int .i64 a0_1, .int .u32 a0_2, .int .i64 a0_3, .int .i64 a0_4, .int .i64 a0_5, .int .i64 a0_6] 52 (0, 0)) (by (with_reducible repeat (first | refine blk_drewN ?_ _ | refine blk_drew ?_ | refine blk_alloc ?_ _)); exact BK173.out) hb); have n1_ := Aside0.mk (blk_below (g := gb188) (o := .cells #[.int .i64 t181, .int .i64 t182, .int .u32 t183, .int .i64 t184, .int .i64 t185, .int .i64 t186, .int .i64 t187] 56 (0, 0)) (by (with_reducible repeat (first | refine blk_drewN ?_ _ | refine blk_drew ?_ | refine blk_alloc ?_ _)); exact BK188.out) hb); have n2_ := Aside0.mk (below_step (by repeat (first | (with_reducible first | exact HB.out | apply below_alloc | apply pw_below_drewN | apply below_drew1 | refine below_set ?_ GE173.out | refine below_set ?_ GE188.out) | exact HB.out)) hb); clear BK173; clear BK188; clear HB; have BK173 := n0_; have BK188 := n1_; have HB := n2_; clear n0_ n1_ n2_; (try clear hb); (try clear hb2); (try clear hk); (try clear hi)))
                    have n0_ := Aside0.mk (blk_drew BK173.out)
                    have n1_ := Aside0.mk (blk_drew BK188.out)
                    have n2_ := Aside0.mk (below_drew1 HB.out)
                    clear BK173
                    clear BK188
                    clear HB
                    have BK173 := n0_
                    have BK188 := n1_
                    have HB := n2_
                    clear n0_ n1_ n2_
                    refine start_ (n := 8) (S := fun w' => w'.cell? ⟨gb188, 0, none⟩ = some (.int .i64 t181) ∧ w'.cell? ⟨gb188, 1, none⟩ = some (.int .i64 t182) ∧ w'.cell? ⟨gb188, 2, none⟩ = some (.int .u32 t183) ∧ w'.cell? ⟨gb188, 3, none⟩ = some (.int .i64 t184) ∧ w'.cell? ⟨gb188, 4, none⟩ = some (.int .i64 t185) ∧ w'.cell? ⟨gb188, 5, none⟩ = some (.int .i64 t186) ∧ w'.cell? ⟨gb188, 6, none⟩ = some (.int .i64 t187)) (ds := []) #[false, false, false, false, false, false, false, false] (by kernel_rfl) rfl rfl ⟨(blk_cell BK188.out 0).trans rfl, (blk_cell BK188.out 1).trans rfl, (blk_cell BK188.out 2).trans rfl, (blk_cell BK188.out 3).trans rfl, (blk_cell BK188.out 4).trans rfl, (blk_cell BK188.out 5).trans rfl, (blk_cell BK188.out 6).trans rfl⟩ (fun hHeld => ?_); refine with_tabW chatelainetop_ChatelaineMeet.tab7 chatelainetop_ChatelaineMeet.bits7 (fun HT_ HW_ => ?_)
                    generalize w76.drew = w77 at BK173 BK188 HB hHeld ⊢
                    refine pure_ (i := 2) (N := some 25) (v := ?_) (a' := ?_) #[false, false, true, false, false, false, false, false] rfl rfl (any_of HT_.out (by kernel_rfl)) (fun _ _ _ h => h) (Or.inl ⟨by rfl, ?_⟩) ?_ ?_
                    rotate_left
                    · intro w'
                      go_simp
                      with_reducible rfl
                    rotate_left
                    · simp only [Act.put, List.setIfInBounds_toArray, List.set_cons_zero, List.set_cons_succ, i64_w, i32_w]
                      rfl
                    refine take_ (i := 0) (N := some 23) (v := ?_) (a' := ?_) #[true, false, true, false, false, false, false, false] rfl rfl (take_ofW HT_.out HW_.out (by kernel_rfl)) (fun _ _ _ h => h) (Or.inl ⟨by rfl, ?_⟩) hHeld ?_ ?_
                    rotate_left
                    · rintro w' ⟨s0, s1, s2, s3, s4, s5, s6⟩
                      go_simp
                      with_reducible rfl
                    rotate_left
                    · simp only [Act.put, List.setIfInBounds_toArray, List.set_cons_zero, List.set_cons_succ, i64_w, i32_w]
                      rfl
                    refine take_ (i := 4) (N := some 27) (v := ?_) (a' := ?_) #[true, false, true, false, true, false, false, false] rfl rfl (take_ofW HT_.out HW_.out (by kernel_rfl)) (fun _ _ _ h => h) (Or.inl ⟨by rfl, ?_⟩) hHeld ?_ ?_
                    rotate_left
                    · rintro w' ⟨s0, s1, s2, s3, s4, s5, s6⟩
                      go_simp
                      with_reducible rfl
                    rotate_left
                    · simp only [Act.put, List.setIfInBounds_toArray, List.set_cons_zero, List.set_cons_succ, i64_w, i32_w]
                      rfl
                    refine one_ (i := 1) (N := some 24) #[true, true, true, false, true, false, false, false] rfl rfl (one_of HT_.out (by kernel_rfl)) (by decide) (fun K hK => ?_)
                    refine goes_ Try.func34 (by kernel_rfl) rfl #[.agg #[.int .i64 t181, .int .i64 t182, .int .u32 t183, .int .i64 t184, .int .i64 t185, .int .i64 t186, .int .i64 t187]] (by rfl) rfl rfl (by (try simp only [List.map_toArray, List.map_cons, List.map_nil]); first | done | rfl | (simp only [List.length_drop, List.length_take]; rfl)) ?_
                    with_reducible refine (grid_Config_All.calls k2 t181 t182 t183 t184 t185 t186 t187 t192 _ A26.out).mono ?_
                    rintro e w78 ⟨rfl, hb⟩
                    refine ⟨_, rfl, ?_⟩
                    have n0_ := Aside0.mk (blk_below (g := gb173) (o := .cells #[.int .i64 a0_0, .int .i64 a0_1, .int .u32 a0_2, .int .i64 a0_3, .int .i64 a0_4, .int .i64 a0_5, .int .i64 a0_6] 52 (0, 0)) (by (with_reducible repeat (first | refine blk_drewN ?_ _ | refine blk_drew ?_ | refine blk_alloc ?_ _)); exact BK173.out) hb)
                    have n1_ := Aside0.mk (blk_below (g := gb188) (o := .cells #[.int .i64 t181, .int .i64 t182, .int .u32 t183, .int .i64 t184, .int .i64 t185, .int .i64 t186, .int .i64 t187] 56 (0, 0)) (by (with_reducible repeat (first | refine blk_drewN ?_ _ | refine blk_drew ?_ | refine blk_alloc ?_ _)); exact BK188.out) hb)
                    have n2_ := Aside0.mk (below_step (by repeat (first | (with_reducible first | exact HB.out | apply below_alloc | apply pw_below_drewN | apply below_drew1 | refine below_set ?_ GE173.out | refine below_set ?_ GE188.out) | exact HB.out)) hb)
                    clear BK173
                    clear BK188
                    clear HB
                    have BK173 := n0_
                    have BK188 := n1_
                    have HB := n2_
                    clear n0_ n1_ n2_
                    (try clear hb)
                    (try clear hb2)
                    (try clear hk)
                    (try clear hi)
                    refine hK.out _ _ ⟨(blk_cell BK188.out 0).trans rfl, (blk_cell BK188.out 1).trans rfl, (blk_cell BK188.out 2).trans rfl, (blk_cell BK188.out 3).trans rfl, (blk_cell BK188.out 4).trans rfl, (blk_cell BK188.out 5).trans rfl, (blk_cell BK188.out 6).trans rfl⟩ (fun hHeld => ?_)
                    clear hK K
                    refine norm_ (a' := ?_) ?_ ?_
                    rotate_left
                    · show Act.put _ (some 24) _ = _
                      simp only [Act.put, List.setIfInBounds_toArray, List.set_cons_zero, List.set_cons_succ, i64_w, i32_w]
                      rfl
                    refine pure_ (i := 3) (N := some 26) (v := ?_) (a' := ?_) #[true, true, true, true, true, false, false, false] rfl rfl (any_of HT_.out (by kernel_rfl)) (fun _ _ _ h => h) (Or.inl ⟨by rfl, ?_⟩) ?_ ?_
                    rotate_left
                    · intro w'
                      go_simp
                      with_reducible rfl
                    rotate_left
                    · simp only [Act.put, List.setIfInBounds_toArray, List.set_cons_zero, List.set_cons_succ, i64_w, i32_w]
                      rfl
                    refine one_ (i := 5) (N := some 28) #[true, true, true, true, true, true, false, false] rfl rfl (one_of HT_.out (by kernel_rfl)) (by decide) (fun K hK => ?_)
                    refine goes_ Try.func35 (by kernel_rfl) rfl #[.agg #[.int .i64 t181, .int .i64 t182, .int .u32 t183, .int .i64 t184, .int .i64 t185, .int .i64 t186, .int .i64 t187]] (by rfl) rfl rfl (by (try simp only [List.map_toArray, List.map_cons, List.map_nil]); first | done | rfl | (simp only [List.length_drop, List.length_take]; rfl)) ?_
                    with_reducible refine (grid_Config_Witnesses.calls k2 t181 t182 t183 t184 t185 t186 t187 t193 _ A27.out).mono ?_
                    rintro e w79 ⟨rfl, hb⟩
                    refine ⟨_, rfl, ?_⟩
                    have n0_ := Aside0.mk (blk_below (g := gb173) (o := .cells #[.int .i64 a0_0, .int .i64 a0_1, .int .u32 a0_2, .int .i64 a0_3, .int .i64 a0_4, .int .i64 a0_5, .int .i64 a0_6] 52 (0, 0)) (by (with_reducible repeat (first | refine blk_drewN ?_ _ | refine blk_drew ?_ | refine blk_alloc ?_ _)); exact BK173.out) hb)
                    have n1_ := Aside0.mk (blk_below (g := gb188) (o := .cells #[.int .i64 t181, .int .i64 t182, .int .u32 t183, .int .i64 t184, .int .i64 t185, .int .i64 t186, .int .i64 t187] 56 (0, 0)) (by (with_reducible repeat (first | refine blk_drewN ?_ _ | refine blk_drew ?_ | refine blk_alloc ?_ _)); exact BK188.out) hb)
                    have n2_ := Aside0.mk (below_step (by repeat (first | (with_reducible first | exact HB.out | apply below_alloc | apply pw_below_drewN | apply below_drew1 | refine below_set ?_ GE173.out | refine below_set ?_ GE188.out) | exact HB.out)) hb)
                    clear BK173
                    clear BK188
                    clear HB
                    have BK173 := n0_
                    have BK188 := n1_
                    have HB := n2_
                    clear n0_ n1_ n2_
                    (try clear hb)
                    (try clear hb2)
                    (try clear hk)
                    (try clear hi)
                    refine hK.out _ _ ⟨(blk_cell BK188.out 0).trans rfl, (blk_cell BK188.out 1).trans rfl, (blk_cell BK188.out 2).trans rfl, (blk_cell BK188.out 3).trans rfl, (blk_cell BK188.out 4).trans rfl, (blk_cell BK188.out 5).trans rfl, (blk_cell BK188.out 6).trans rfl⟩ (fun hHeld => ?_)
                    clear hK K
                    refine norm_ (a' := ?_) ?_ ?_
                    rotate_left
                    · show Act.put _ (some 28) _ = _
                      simp only [Act.put, List.setIfInBounds_toArray, List.set_cons_zero, List.set_cons_succ, i64_w, i32_w]
                      rfl
                    refine pure_ (i := 6) (N := some 29) (v := ?_) (a' := ?_) #[true, true, true, true, true, true, true, false] rfl rfl (any_of HT_.out (by kernel_rfl)) (fun _ _ _ h => h) (Or.inl ⟨by rfl, ?_⟩) ?_ ?_
                    rotate_left
                    · intro w'
                      go_simp
                      with_reducible rfl
                    rotate_left
                    · simp only [Act.put, List.setIfInBounds_toArray, List.set_cons_zero, List.set_cons_succ, i64_w, i32_w]
                      rfl
                    refine pure_ (i := 7) (N := some 5) (v := ?_) (a' := ?_) #[true, true, true, true, true, true, true, true] rfl rfl (any_of HT_.out (by kernel_rfl)) (fun _ _ _ h => h) (Or.inl ⟨by rfl, ?_⟩) ?_ ?_
                    rotate_left
                    · intro w'
                      go_simp
                      with_reducible rfl
                    rotate_left
                    · simp only [Act.put, List.setIfInBounds_toArray, List.set_cons_zero, List.set_cons_succ, i64_w, i32_w]
                      rfl
                    refine done_ (done_of HT_.out (by kernel_rfl)) ?_
                    have hcz80_0 : w79.cell? ⟨gb188, 0, none⟩ = some (.int .i64 t181) := (blk_cell BK188.out 0).trans rfl
                    have hcz80_1 : w79.cell? ⟨gb188, 1, none⟩ = some (.int .i64 t182) := (blk_cell BK188.out 1).trans rfl
                    have hcz80_2 : w79.cell? ⟨gb188, 2, none⟩ = some (.int .u32 t183) := (blk_cell BK188.out 2).trans rfl
                    have hcz80_3 : w79.cell? ⟨gb188, 3, none⟩ = some (.int .i64 t184) := (blk_cell BK188.out 3).trans rfl
                    have hcz80_4 : w79.cell? ⟨gb188, 4, none⟩ = some (.int .i64 t185) := (blk_cell BK188.out 4).trans rfl
                    have hcz80_5 : w79.cell? ⟨gb188, 5, none⟩ = some (.int .i64 t186) := (blk_cell BK188.out 5).trans rfl
                    have hcz80_6 : w79.cell? ⟨gb188, 6, none⟩ = some (.int .i64 t187) := (blk_cell BK188.out 6).trans rfl
                    have hfz80_0 := blk_frozen BK188.out 0
                    have hfz80_1 := blk_frozen BK188.out 1
                    have hfz80_2 := blk_frozen BK188.out 2
                    have hfz80_3 := blk_frozen BK188.out 3
                    have hfz80_4 := blk_frozen BK188.out 4
                    have hfz80_5 := blk_frozen BK188.out 5
                    have hfz80_6 := blk_frozen BK188.out 6
                    try go_wp2_with (first | ((with_reducible refine gate_callee (f := 31) rfl ?_); refine goesL_ (some 32) rfl rfl Try.func31 (by kernel_rfl) rfl #[.agg #[.int .i64 t181, .int .i64 t182, .int .u32 t183, .int .i64 t184, .int .i64 t185, .int .i64 t186, .int .i64 t187], .int .u32 x4_2] rfl (by (try simp only [List.map_toArray, List.map_cons, List.map_nil]); first | done | rfl | (simp only [List.length_drop, List.length_take]; rfl)) ?_; (with_reducible refine (grid_Config_IsFirst.calls k2 t181 t182 t183 t184 t185 t186 t187 x4_2 true _ A28.out).mono ?_); rintro e w81 ⟨rfl, hb⟩; refine ⟨_, rfl, ?_⟩; have n0_ := Aside0.mk (blk_below (g := gb173) (o := .cells #[.int .i64 a0_0, .int .i64 a0_1, .int .u32 a0_2, .int .i64 a0_3, .int .i64 a0_4, .int .i64 a0_5, .int .i64 a0_6] 52 (0, 0)) (by (with_reducible repeat (first | refine blk_drewN ?_ _ | refine blk_drew ?_ | refine blk_alloc ?_ _)); exact BK173.out) hb); have n1_ := Aside0.mk (blk_below (g := gb188) (o := .cells #[.int .i64 t181, .int .i64 t182, .int .u32 t183, .int .i64 t184, .int .i64 t185, .int .i64 t186, .int .i64 t187] 56 (0, 0)) (by (with_reducible repeat (first | refine blk_drewN ?_ _ | refine blk_drew ?_ | refine blk_alloc ?_ _)); exact BK188.out) hb); have n2_ := Aside0.mk (below_step (by repeat (first | (with_reducible first | exact HB.out | apply below_alloc | apply pw_below_drewN | apply below_drew1 | refine below_set ?_ GE173.out | refine below_set ?_ GE188.out) | exact HB.out)) hb); clear BK173; clear BK188; clear HB; have BK173 := n0_; have BK188 := n1_; have HB := n2_; clear n0_ n1_ n2_; (try clear hb); (try clear hb2); (try clear hk); (try clear hi); have hcz82_0 : w81.cell? ⟨gb188, 0, none⟩ = some (.int .i64 t181) := (blk_cell BK188.out 0).trans rfl; have hcz82_1 : w81.cell? ⟨gb188, 1, none⟩ = some (.int .i64 t182) := (blk_cell BK188.out 1).trans rfl; have hcz82_2 : w81.cell? ⟨gb188, 2, none⟩ = some (.int .u32 t183) := (blk_cell BK188.out 2).trans rfl; have hcz82_3 : w81.cell? ⟨gb188, 3, none⟩ = some (.int .i64 t184) := (blk_cell BK188.out 3).trans rfl; have hcz82_4 : w81.cell? ⟨gb188, 4, none⟩ = some (.int .i64 t185) := (blk_cell BK188.out 4).trans rfl; have hcz82_5 : w81.cell? ⟨gb188, 5, none⟩ = some (.int .i64 t186) := (blk_cell BK188.out 5).trans rfl; have hcz82_6 : w81.cell? ⟨gb188, 6, none⟩ = some (.int .i64 t187) := (blk_cell BK188.out 6).trans rfl; have hfz82_0 := blk_frozen BK188.out 0; have hfz82_1 := blk_frozen BK188.out 1; have hfz82_2 := blk_frozen BK188.out 2; have hfz82_3 := blk_frozen BK188.out 3; have hfz82_4 := blk_frozen BK188.out 4; have hfz82_5 := blk_frozen BK188.out 5; have hfz82_6 := blk_frozen BK188.out 6) | (go_at_call 33; (with_reducible refine (grid_Config_IsSecond.calls k2 t181 t182 t183 t184 t185 t186 t187 (Go.bits .or .u32 (Go.bits .andNot .u32 t192 x4_2) t193) false _ A30.out).mono ?_); rintro e w83 ⟨rfl, hb⟩; have n0_ := Aside0.mk (blk_below (g := gb173) (o := .cells #[.int .i64 a0_0, .int .i64 a0_1, .int .u32 a0_2, .int .i64 a0_3, .int .i64 a0_4, .int .i64 a0_5, .int .i64 a0_6] 52 (0, 0)) (by (with_reducible repeat (first | refine blk_drewN ?_ _ | refine blk_drew ?_ | refine blk_alloc ?_ _)); exact BK173.out) hb); have n1_ := Aside0.mk (blk_below (g := gb188) (o := .cells #[.int .i64 t181, .int .i64 t182, .int .u32 t183, .int .i64 t184, .int .i64 t185, .int .i64 t186, .int .i64 t187] 56 (0, 0)) (by (with_reducible repeat (first | refine blk_drewN ?_ _ | refine blk_drew ?_ | refine blk_alloc ?_ _)); exact BK188.out) hb); have n2_ := Aside0.mk (below_step (by repeat (first | (with_reducible first | exact HB.out | apply below_alloc | apply pw_below_drewN | apply below_drew1 | refine below_set ?_ GE173.out | refine below_set ?_ GE188.out) | exact HB.out)) hb); clear BK173; clear BK188; clear HB; have BK173 := n0_; have BK188 := n1_; have HB := n2_; clear n0_ n1_ n2_; (try clear hb); (try clear hb2); (try clear hk); (try clear hi); have hcz84_0 : w83.cell? ⟨gb188, 0, none⟩ = some (.int .i64 t181) := (blk_cell BK188.out 0).trans rfl; have hcz84_1 : w83.cell? ⟨gb188, 1, none⟩ = some (.int .i64 t182) := (blk_cell BK188.out 1).trans rfl; have hcz84_2 : w83.cell? ⟨gb188, 2, none⟩ = some (.int .u32 t183) := (blk_cell BK188.out 2).trans rfl; have hcz84_3 : w83.cell? ⟨gb188, 3, none⟩ = some (.int .i64 t184) := (blk_cell BK188.out 3).trans rfl; have hcz84_4 : w83.cell? ⟨gb188, 4, none⟩ = some (.int .i64 t185) := (blk_cell BK188.out 4).trans rfl; have hcz84_5 : w83.cell? ⟨gb188, 5, none⟩ = some (.int .i64 t186) := (blk_cell BK188.out 5).trans rfl; have hcz84_6 : w83.cell? ⟨gb188, 6, none⟩ = some (.int .i64 t187) := (blk_cell BK188.out 6).trans rfl; have hfz84_0 := blk_frozen BK188.out 0; have hfz84_1 := blk_frozen BK188.out 1; have hfz84_2 := blk_frozen BK188.out 2; have hfz84_3 := blk_frozen BK188.out 3; have hfz84_4 := blk_frozen BK188.out 4; have hfz84_5 := blk_frozen BK188.out 5; have hfz84_6 := blk_frozen BK188.out 6) | (go_at_call 33; (with_reducible refine (grid_Config_IsSecond.calls k2 t181 t182 t183 t184 t185 t186 t187 x4_2 false _ A42.out).mono ?_); rintro e w85 ⟨rfl, hb⟩; have n0_ := Aside0.mk (blk_below (g := gb173) (o := .cells #[.int .i64 a0_0, .int .i64 a0_1, .int .u32 a0_2, .int .i64 a0_3, .int .i64 a0_4, .int .i64 a0_5, .int .i64 a0_6] 52 (0, 0)) (by (with_reducible repeat (first | refine blk_drewN ?_ _ | refine blk_drew ?_ | refine blk_alloc ?_ _)); exact BK173.out) hb); have n1_ := Aside0.mk (blk_below (g := gb188) (o := .cells #[.int .i64 t181, .int .i64 t182, .int .u32 t183, .int .i64 t184, .int .i64 t185, .int .i64 t186, .int .i64 t187] 56 (0, 0)) (by (with_reducible repeat (first | refine blk_drewN ?_ _ | refine blk_drew ?_ | refine blk_alloc ?_ _)); exact BK188.out) hb); have n2_ := Aside0.mk (below_step (by repeat (first | (with_reducible first | exact HB.out | apply below_alloc | apply pw_below_drewN | apply below_drew1 | refine below_set ?_ GE173.out | refine below_set ?_ GE188.out) | exact HB.out)) hb); clear BK173; clear BK188; clear HB; have BK173 := n0_; have BK188 := n1_; have HB := n2_; clear n0_ n1_ n2_; (try clear hb); (try clear hb2); (try clear hk); (try clear hi)))
                    go_roundg k2
                    case measure => have := HJ3.out; have := HK2.out; omega
                    case rel => exact ⟨((x4_2 + 1) % 4294967296), (by first | rfl | (simp; done) | (simp [*]; done)), H', ⟨by have := HJ3.out; have := HK2.out; omega⟩, ⟨by (with_reducible repeat (first | refine blk_drewN ?_ _ | refine blk_drew ?_ | refine blk_alloc ?_ _)); exact BK173.out⟩, ⟨by (with_reducible repeat (first | refine blk_drewN ?_ _ | refine blk_drew ?_ | refine blk_alloc ?_ _)); exact BK188.out⟩, ⟨by repeat (first | (with_reducible first | exact HB.out | apply below_alloc | apply pw_below_drewN | apply below_drew1 | refine below_set ?_ GE173.out | refine below_set ?_ GE188.out) | exact HB.out)⟩⟩
              · replace c29 := Bool.eq_false_iff.mpr c29
                subst c29
                have H1 : ((grid_Config_IsSecond.f k2 t181 t182 t183 t184 t185 t186 t187 x4_2).bind fun t198 => (if t198 = true then ((grid_Config_IsFirst.f k2 t181 t182 t183 t184 t185 t186 t187 (Go.bits .or .u32 (Go.bits .andNot .u32 t192 x4_2) t193)).bind fun t199 => (if t199 = true then (some false) else (chatelainetop_ChatelaineMeet.l0 k2 ((x4_2 + 1) % 4294967296) t181 t182 t183 t184 t185 t186 t187))) else (chatelainetop_ChatelaineMeet.l0 k2 ((x4_2 + 1) % 4294967296) t181 t182 t183 t184 t185 t186 t187))) = some r := by rw [if_neg (show ¬ (false = true) by decide)] at H; exact H
                clear H
                have H := H1
                clear H1
                replace H := Option.bind_eq_some_iff.mp H
                obtain ⟨t198, A860, H⟩ := H
                replace H : (if t198 = true then ((grid_Config_IsFirst.f k2 t181 t182 t183 t184 t185 t186 t187 (Go.bits .or .u32 (Go.bits .andNot .u32 t192 x4_2) t193)).bind fun t199 => (if t199 = true then (some false) else (chatelainetop_ChatelaineMeet.l0 k2 ((x4_2 + 1) % 4294967296) t181 t182 t183 t184 t185 t186 t187))) else (chatelainetop_ChatelaineMeet.l0 k2 ((x4_2 + 1) % 4294967296) t181 t182 t183 t184 t185 t186 t187)) = some r := H
                have A86 := Aside0.mk A860
                clear A860
                by_cases c87 : t198 = true
                · subst c87
                  have H1 : ((grid_Config_IsFirst.f k2 t181 t182 t183 t184 t185 t186 t187 (Go.bits .or .u32 (Go.bits .andNot .u32 t192 x4_2) t193)).bind fun t199 => (if t199 = true then (some false) else (chatelainetop_ChatelaineMeet.l0 k2 ((x4_2 + 1) % 4294967296) t181 t182 t183 t184 t185 t186 t187))) = some r := by rw [if_pos rfl] at H; exact H
                  clear H
                  have H := H1
                  clear H1
                  replace H := Option.bind_eq_some_iff.mp H
                  obtain ⟨t199, A880, H⟩ := H
                  replace H : (if t199 = true then (some false) else (chatelainetop_ChatelaineMeet.l0 k2 ((x4_2 + 1) % 4294967296) t181 t182 t183 t184 t185 t186 t187)) = some r := H
                  have A88 := Aside0.mk A880
                  clear A880
                  by_cases c89 : t199 = true
                  · subst c89
                    have H1 : (some false) = some r := by rw [if_pos rfl] at H; exact H
                    clear H
                    have H := H1
                    clear H1
                    obtain rfl := Option.some.inj H
                    have hnb90 := NB188_173.out
                    have hnc90 := NB173_188.out
                    have hcz91_0 : wr.cell? ⟨gb188, 0, none⟩ = some (.int .i64 t181) := (blk_cell BK188.out 0).trans rfl
                    have hcz91_1 : wr.cell? ⟨gb188, 1, none⟩ = some (.int .i64 t182) := (blk_cell BK188.out 1).trans rfl
                    have hcz91_2 : wr.cell? ⟨gb188, 2, none⟩ = some (.int .u32 t183) := (blk_cell BK188.out 2).trans rfl
                    have hcz91_3 : wr.cell? ⟨gb188, 3, none⟩ = some (.int .i64 t184) := (blk_cell BK188.out 3).trans rfl
                    have hcz91_4 : wr.cell? ⟨gb188, 4, none⟩ = some (.int .i64 t185) := (blk_cell BK188.out 4).trans rfl
                    have hcz91_5 : wr.cell? ⟨gb188, 5, none⟩ = some (.int .i64 t186) := (blk_cell BK188.out 5).trans rfl
                    have hcz91_6 : wr.cell? ⟨gb188, 6, none⟩ = some (.int .i64 t187) := (blk_cell BK188.out 6).trans rfl
                    have hfz91_0 := blk_frozen BK188.out 0
                    have hfz91_1 := blk_frozen BK188.out 1
                    have hfz91_2 := blk_frozen BK188.out 2
                    have hfz91_3 := blk_frozen BK188.out 3
                    have hfz91_4 := blk_frozen BK188.out 4
                    have hfz91_5 := blk_frozen BK188.out 5
                    have hfz91_6 := blk_frozen BK188.out 6
                    try go_wp2_with (first | ((with_reducible refine gate_callee (f := 34) rfl ?_); refine goesL_ (some 19) rfl rfl Try.func34 (by kernel_rfl) rfl #[.agg #[.int .i64 t181, .int .i64 t182, .int .u32 t183, .int .i64 t184, .int .i64 t185, .int .i64 t186, .int .i64 t187]] rfl (by (try simp only [List.map_toArray, List.map_cons, List.map_nil]); first | done | rfl | (simp only [List.length_drop, List.length_take]; rfl)) ?_; (with_reducible refine (grid_Config_All.calls k2 t181 t182 t183 t184 t185 t186 t187 t191 _ A24.out).mono ?_); rintro e w92 ⟨rfl, hb⟩; refine ⟨_, rfl, ?_⟩; have n0_ := Aside0.mk (blk_below (g := gb173) (o := .cells #[.int .i64 a0_0, .int .i64 a0_1, .int .u32 a0_2, .int .i64 a0_3, .int .i64 a0_4, .int .i64 a0_5, .int .i64 a0_6] 52 (0, 0)) (by (with_reducible repeat (first | refine blk_drewN ?_ _ | refine blk_drew ?_ | refine blk_alloc ?_ _)); exact BK173.out) hb); have n1_ := Aside0.mk (blk_below (g := gb188) (o := .cells #[.int .i64 t181, .int .i64 t182, .int .u32 t183, .int .i64 t184, .int .i64 t185, .int .i64 t186, .int .i64 t187] 56 (0, 0)) (by (with_reducible repeat (first | refine blk_drewN ?_ _ | refine blk_drew ?_ | refine blk_alloc ?_ _)); exact BK188.out) hb); have n2_ := Aside0.mk (below_step (by repeat (first | (with_reducible first | exact HB.out | apply below_alloc | apply pw_below_drewN | apply below_drew1 | refine below_set ?_ GE173.out | refine below_set ?_ GE188.out) | exact HB.out)) hb); clear BK173; clear BK188; clear HB; have BK173 := n0_; have BK188 := n1_; have HB := n2_; clear n0_ n1_ n2_; (try clear hb); (try clear hb2); (try clear hk); (try clear hi)))
                    have n0_ := Aside0.mk (blk_drew BK173.out)
                    have n1_ := Aside0.mk (blk_drew BK188.out)
                    have n2_ := Aside0.mk (below_drew1 HB.out)
                    clear BK173
                    clear BK188
                    clear HB
                    have BK173 := n0_
                    have BK188 := n1_
                    have HB := n2_
                    clear n0_ n1_ n2_
                    refine start_ (n := 8) (S := fun w' => w'.cell? ⟨gb188, 0, none⟩ = some (.int .i64 t181) ∧ w'.cell? ⟨gb188, 1, none⟩ = some (.int .i64 t182) ∧ w'.cell? ⟨gb188, 2, none⟩ = some (.int .u32 t183) ∧ w'.cell? ⟨gb188, 3, none⟩ = some (.int .i64 t184) ∧ w'.cell? ⟨gb188, 4, none⟩ = some (.int .i64 t185) ∧ w'.cell? ⟨gb188, 5, none⟩ = some (.int .i64 t186) ∧ w'.cell? ⟨gb188, 6, none⟩ = some (.int .i64 t187)) (ds := []) #[false, false, false, false, false, false, false, false] (by kernel_rfl) rfl rfl ⟨(blk_cell BK188.out 0).trans rfl, (blk_cell BK188.out 1).trans rfl, (blk_cell BK188.out 2).trans rfl, (blk_cell BK188.out 3).trans rfl, (blk_cell BK188.out 4).trans rfl, (blk_cell BK188.out 5).trans rfl, (blk_cell BK188.out 6).trans rfl⟩ (fun hHeld => ?_); refine with_tabW chatelainetop_ChatelaineMeet.tab7 chatelainetop_ChatelaineMeet.bits7 (fun HT_ HW_ => ?_)
                    generalize w92.drew = w93 at BK173 BK188 HB hHeld ⊢
                    refine pure_ (i := 2) (N := some 25) (v := ?_) (a' := ?_) #[false, false, true, false, false, false, false, false] rfl rfl (any_of HT_.out (by kernel_rfl)) (fun _ _ _ h => h) (Or.inl ⟨by rfl, ?_⟩) ?_ ?_
                    rotate_left
                    · intro w'
                      go_simp
                      with_reducible rfl
                    rotate_left
                    · simp only [Act.put, List.setIfInBounds_toArray, List.set_cons_zero, List.set_cons_succ, i64_w, i32_w]
                      rfl
                    refine take_ (i := 0) (N := some 23) (v := ?_) (a' := ?_) #[true, false, true, false, false, false, false, false] rfl rfl (take_ofW HT_.out HW_.out (by kernel_rfl)) (fun _ _ _ h => h) (Or.inl ⟨by rfl, ?_⟩) hHeld ?_ ?_
                    rotate_left
                    · rintro w' ⟨s0, s1, s2, s3, s4, s5, s6⟩
                      go_simp
                      with_reducible rfl
                    rotate_left
                    · simp only [Act.put, List.setIfInBounds_toArray, List.set_cons_zero, List.set_cons_succ, i64_w, i32_w]
                      rfl
                    refine take_ (i := 4) (N := some 27) (v := ?_) (a' := ?_) #[true, false, true, false, true, false, false, false] rfl rfl (take_ofW HT_.out HW_.out (by kernel_rfl)) (fun _ _ _ h => h) (Or.inl ⟨by rfl, ?_⟩) hHeld ?_ ?_
                    rotate_left
                    · rintro w' ⟨s0, s1, s2, s3, s4, s5, s6⟩
                      go_simp
                      with_reducible rfl
                    rotate_left
                    · simp only [Act.put, List.setIfInBounds_toArray, List.set_cons_zero, List.set_cons_succ, i64_w, i32_w]
                      rfl
                    refine one_ (i := 1) (N := some 24) #[true, true, true, false, true, false, false, false] rfl rfl (one_of HT_.out (by kernel_rfl)) (by decide) (fun K hK => ?_)
                    refine goes_ Try.func34 (by kernel_rfl) rfl #[.agg #[.int .i64 t181, .int .i64 t182, .int .u32 t183, .int .i64 t184, .int .i64 t185, .int .i64 t186, .int .i64 t187]] (by rfl) rfl rfl (by (try simp only [List.map_toArray, List.map_cons, List.map_nil]); first | done | rfl | (simp only [List.length_drop, List.length_take]; rfl)) ?_
                    with_reducible refine (grid_Config_All.calls k2 t181 t182 t183 t184 t185 t186 t187 t192 _ A26.out).mono ?_
                    rintro e w94 ⟨rfl, hb⟩
                    refine ⟨_, rfl, ?_⟩
                    have n0_ := Aside0.mk (blk_below (g := gb173) (o := .cells #[.int .i64 a0_0, .int .i64 a0_1, .int .u32 a0_2, .int .i64 a0_3, .int .i64 a0_4, .int .i64 a0_5, .int .i64 a0_6] 52 (0, 0)) (by (with_reducible repeat (first | refine blk_drewN ?_ _ | refine blk_drew ?_ | refine blk_alloc ?_ _)); exact BK173.out) hb)
                    have n1_ := Aside0.mk (blk_below (g := gb188) (o := .cells #[.int .i64 t181, .int .i64 t182, .int .u32 t183, .int .i64 t184, .int .i64 t185, .int .i64 t186, .int .i64 t187] 56 (0, 0)) (by (with_reducible repeat (first | refine blk_drewN ?_ _ | refine blk_drew ?_ | refine blk_alloc ?_ _)); exact BK188.out) hb)
                    have n2_ := Aside0.mk (below_step (by repeat (first | (with_reducible first | exact HB.out | apply below_alloc | apply pw_below_drewN | apply below_drew1 | refine below_set ?_ GE173.out | refine below_set ?_ GE188.out) | exact HB.out)) hb)
                    clear BK173
                    clear BK188
                    clear HB
                    have BK173 := n0_
                    have BK188 := n1_
                    have HB := n2_
                    clear n0_ n1_ n2_
                    (try clear hb)
                    (try clear hb2)
                    (try clear hk)
                    (try clear hi)
                    refine hK.out _ _ ⟨(blk_cell BK188.out 0).trans rfl, (blk_cell BK188.out 1).trans rfl, (blk_cell BK188.out 2).trans rfl, (blk_cell BK188.out 3).trans rfl, (blk_cell BK188.out 4).trans rfl, (blk_cell BK188.out 5).trans rfl, (blk_cell BK188.out 6).trans rfl⟩ (fun hHeld => ?_)
                    clear hK K
                    refine norm_ (a' := ?_) ?_ ?_
                    rotate_left
                    · show Act.put _ (some 24) _ = _
                      simp only [Act.put, List.setIfInBounds_toArray, List.set_cons_zero, List.set_cons_succ, i64_w, i32_w]
                      rfl
                    refine pure_ (i := 3) (N := some 26) (v := ?_) (a' := ?_) #[true, true, true, true, true, false, false, false] rfl rfl (any_of HT_.out (by kernel_rfl)) (fun _ _ _ h => h) (Or.inl ⟨by rfl, ?_⟩) ?_ ?_
                    rotate_left
                    · intro w'
                      go_simp
                      with_reducible rfl
                    rotate_left
                    · simp only [Act.put, List.setIfInBounds_toArray, List.set_cons_zero, List.set_cons_succ, i64_w, i32_w]
                      rfl
                    refine one_ (i := 5) (N := some 28) #[true, true, true, true, true, true, false, false] rfl rfl (one_of HT_.out (by kernel_rfl)) (by decide) (fun K hK => ?_)
                    refine goes_ Try.func35 (by kernel_rfl) rfl #[.agg #[.int .i64 t181, .int .i64 t182, .int .u32 t183, .int .i64 t184, .int .i64 t185, .int .i64 t186, .int .i64 t187]] (by rfl) rfl rfl (by (try simp only [List.map_toArray, List.map_cons, List.map_nil]); first | done | rfl | (simp only [List.length_drop, List.length_take]; rfl)) ?_
                    with_reducible refine (grid_Config_Witnesses.calls k2 t181 t182 t183 t184 t185 t186 t187 t193 _ A27.out).mono ?_
                    rintro e w95 ⟨rfl, hb⟩
                    refine ⟨_, rfl, ?_⟩
                    have n0_ := Aside0.mk (blk_below (g := gb173) (o := .cells #[.int .i64 a0_0, .int .i64 a0_1, .int .u32 a0_2, .int .i64 a0_3, .int .i64 a0_4, .int .i64 a0_5, .int .i64 a0_6] 52 (0, 0)) (by (with_reducible repeat (first | refine blk_drewN ?_ _ | refine blk_drew ?_ | refine blk_alloc ?_ _)); exact BK173.out) hb)
                    have n1_ := Aside0.mk (blk_below (g := gb188) (o := .cells #[.int .i64 t181, .int .i64 t182, .int .u32 t183, .int .i64 t184, .int .i64 t185, .int .i64 t186, .int .i64 t187] 56 (0, 0)) (by (with_reducible repeat (first | refine blk_drewN ?_ _ | refine blk_drew ?_ | refine blk_alloc ?_ _)); exact BK188.out) hb)
                    have n2_ := Aside0.mk (below_step (by repeat (first | (with_reducible first | exact HB.out | apply below_alloc | apply pw_below_drewN | apply below_drew1 | refine below_set ?_ GE173.out | refine below_set ?_ GE188.out) | exact HB.out)) hb)
                    clear BK173
                    clear BK188
                    clear HB
                    have BK173 := n0_
                    have BK188 := n1_
                    have HB := n2_
                    clear n0_ n1_ n2_
                    (try clear hb)
                    (try clear hb2)
                    (try clear hk)
                    (try clear hi)
                    refine hK.out _ _ ⟨(blk_cell BK188.out 0).trans rfl, (blk_cell BK188.out 1).trans rfl, (blk_cell BK188.out 2).trans rfl, (blk_cell BK188.out 3).trans rfl, (blk_cell BK188.out 4).trans rfl, (blk_cell BK188.out 5).trans rfl, (blk_cell BK188.out 6).trans rfl⟩ (fun hHeld => ?_)
                    clear hK K
                    refine norm_ (a' := ?_) ?_ ?_
                    rotate_left
                    · show Act.put _ (some 28) _ = _
                      simp only [Act.put, List.setIfInBounds_toArray, List.set_cons_zero, List.set_cons_succ, i64_w, i32_w]
                      rfl
                    refine pure_ (i := 6) (N := some 29) (v := ?_) (a' := ?_) #[true, true, true, true, true, true, true, false] rfl rfl (any_of HT_.out (by kernel_rfl)) (fun _ _ _ h => h) (Or.inl ⟨by rfl, ?_⟩) ?_ ?_
                    rotate_left
                    · intro w'
                      go_simp
                      with_reducible rfl
                    rotate_left
                    · simp only [Act.put, List.setIfInBounds_toArray, List.set_cons_zero, List.set_cons_succ, i64_w, i32_w]
                      rfl
                    refine pure_ (i := 7) (N := some 5) (v := ?_) (a' := ?_) #[true, true, true, true, true, true, true, true] rfl rfl (any_of HT_.out (by kernel_rfl)) (fun _ _ _ h => h) (Or.inl ⟨by rfl, ?_⟩) ?_ ?_
                    rotate_left
                    · intro w'
                      go_simp
                      with_reducible rfl
                    rotate_left
                    · simp only [Act.put, List.setIfInBounds_toArray, List.set_cons_zero, List.set_cons_succ, i64_w, i32_w]
                      rfl
                    refine done_ (done_of HT_.out (by kernel_rfl)) ?_
                    have hcz96_0 : w95.cell? ⟨gb188, 0, none⟩ = some (.int .i64 t181) := (blk_cell BK188.out 0).trans rfl
                    have hcz96_1 : w95.cell? ⟨gb188, 1, none⟩ = some (.int .i64 t182) := (blk_cell BK188.out 1).trans rfl
                    have hcz96_2 : w95.cell? ⟨gb188, 2, none⟩ = some (.int .u32 t183) := (blk_cell BK188.out 2).trans rfl
                    have hcz96_3 : w95.cell? ⟨gb188, 3, none⟩ = some (.int .i64 t184) := (blk_cell BK188.out 3).trans rfl
                    have hcz96_4 : w95.cell? ⟨gb188, 4, none⟩ = some (.int .i64 t185) := (blk_cell BK188.out 4).trans rfl
                    have hcz96_5 : w95.cell? ⟨gb188, 5, none⟩ = some (.int .i64 t186) := (blk_cell BK188.out 5).trans rfl
                    have hcz96_6 : w95.cell? ⟨gb188, 6, none⟩ = some (.int .i64 t187) := (blk_cell BK188.out 6).trans rfl
                    have hfz96_0 := blk_frozen BK188.out 0
                    have hfz96_1 := blk_frozen BK188.out 1
                    have hfz96_2 := blk_frozen BK188.out 2
                    have hfz96_3 := blk_frozen BK188.out 3
                    have hfz96_4 := blk_frozen BK188.out 4
                    have hfz96_5 := blk_frozen BK188.out 5
                    have hfz96_6 := blk_frozen BK188.out 6
                    try go_wp2_with (first | ((with_reducible refine gate_callee (f := 31) rfl ?_); refine goesL_ (some 32) rfl rfl Try.func31 (by kernel_rfl) rfl #[.agg #[.int .i64 t181, .int .i64 t182, .int .u32 t183, .int .i64 t184, .int .i64 t185, .int .i64 t186, .int .i64 t187], .int .u32 x4_2] rfl (by (try simp only [List.map_toArray, List.map_cons, List.map_nil]); first | done | rfl | (simp only [List.length_drop, List.length_take]; rfl)) ?_; (with_reducible refine (grid_Config_IsFirst.calls k2 t181 t182 t183 t184 t185 t186 t187 x4_2 false _ A28.out).mono ?_); rintro e w97 ⟨rfl, hb⟩; refine ⟨_, rfl, ?_⟩; have n0_ := Aside0.mk (blk_below (g := gb173) (o := .cells #[.int .i64 a0_0, .int .i64 a0_1, .int .u32 a0_2, .int .i64 a0_3, .int .i64 a0_4, .int .i64 a0_5, .int .i64 a0_6] 52 (0, 0)) (by (with_reducible repeat (first | refine blk_drewN ?_ _ | refine blk_drew ?_ | refine blk_alloc ?_ _)); exact BK173.out) hb); have n1_ := Aside0.mk (blk_below (g := gb188) (o := .cells #[.int .i64 t181, .int .i64 t182, .int .u32 t183, .int .i64 t184, .int .i64 t185, .int .i64 t186, .int .i64 t187] 56 (0, 0)) (by (with_reducible repeat (first | refine blk_drewN ?_ _ | refine blk_drew ?_ | refine blk_alloc ?_ _)); exact BK188.out) hb); have n2_ := Aside0.mk (below_step (by repeat (first | (with_reducible first | exact HB.out | apply below_alloc | apply pw_below_drewN | apply below_drew1 | refine below_set ?_ GE173.out | refine below_set ?_ GE188.out) | exact HB.out)) hb); clear BK173; clear BK188; clear HB; have BK173 := n0_; have BK188 := n1_; have HB := n2_; clear n0_ n1_ n2_; (try clear hb); (try clear hb2); (try clear hk); (try clear hi); have hcz98_0 : w97.cell? ⟨gb188, 0, none⟩ = some (.int .i64 t181) := (blk_cell BK188.out 0).trans rfl; have hcz98_1 : w97.cell? ⟨gb188, 1, none⟩ = some (.int .i64 t182) := (blk_cell BK188.out 1).trans rfl; have hcz98_2 : w97.cell? ⟨gb188, 2, none⟩ = some (.int .u32 t183) := (blk_cell BK188.out 2).trans rfl; have hcz98_3 : w97.cell? ⟨gb188, 3, none⟩ = some (.int .i64 t184) := (blk_cell BK188.out 3).trans rfl; have hcz98_4 : w97.cell? ⟨gb188, 4, none⟩ = some (.int .i64 t185) := (blk_cell BK188.out 4).trans rfl; have hcz98_5 : w97.cell? ⟨gb188, 5, none⟩ = some (.int .i64 t186) := (blk_cell BK188.out 5).trans rfl; have hcz98_6 : w97.cell? ⟨gb188, 6, none⟩ = some (.int .i64 t187) := (blk_cell BK188.out 6).trans rfl; have hfz98_0 := blk_frozen BK188.out 0; have hfz98_1 := blk_frozen BK188.out 1; have hfz98_2 := blk_frozen BK188.out 2; have hfz98_3 := blk_frozen BK188.out 3; have hfz98_4 := blk_frozen BK188.out 4; have hfz98_5 := blk_frozen BK188.out 5; have hfz98_6 := blk_frozen BK188.out 6) | (go_at_call 33; (with_reducible refine (grid_Config_IsSecond.calls k2 t181 t182 t183 t184 t185 t186 t187 x4_2 true _ A86.out).mono ?_); rintro e w99 ⟨rfl, hb⟩; have n0_ := Aside0.mk (blk_below (g := gb173) (o := .cells #[.int .i64 a0_0, .int .i64 a0_1, .int .u32 a0_2, .int .i64 a0_3, .int .i64 a0_4, .int .i64 a0_5, .int .i64 a0_6] 52 (0, 0)) (by (with_reducible repeat (first | refine blk_drewN ?_ _ | refine blk_drew ?_ | refine blk_alloc ?_ _)); exact BK173.out) hb); have n1_ := Aside0.mk (blk_below (g := gb188) (o := .cells #[.int .i64 t181, .int .i64 t182, .int .u32 t183, .int .i64 t184, .int .i64 t185, .int .i64 t186, .int .i64 t187] 56 (0, 0)) (by (with_reducible repeat (first | refine blk_drewN ?_ _ | refine blk_drew ?_ | refine blk_alloc ?_ _)); exact BK188.out) hb); have n2_ := Aside0.mk (below_step (by repeat (first | (with_reducible first | exact HB.out | apply below_alloc | apply pw_below_drewN | apply below_drew1 | refine below_set ?_ GE173.out | refine below_set ?_ GE188.out) | exact HB.out)) hb); clear BK173; clear BK188; clear HB; have BK173 := n0_; have BK188 := n1_; have HB := n2_; clear n0_ n1_ n2_; (try clear hb); (try clear hb2); (try clear hk); (try clear hi); have hcz100_0 : w99.cell? ⟨gb188, 0, none⟩ = some (.int .i64 t181) := (blk_cell BK188.out 0).trans rfl; have hcz100_1 : w99.cell? ⟨gb188, 1, none⟩ = some (.int .i64 t182) := (blk_cell BK188.out 1).trans rfl; have hcz100_2 : w99.cell? ⟨gb188, 2, none⟩ = some (.int .u32 t183) := (blk_cell BK188.out 2).trans rfl; have hcz100_3 : w99.cell? ⟨gb188, 3, none⟩ = some (.int .i64 t184) := (blk_cell BK188.out 3).trans rfl; have hcz100_4 : w99.cell? ⟨gb188, 4, none⟩ = some (.int .i64 t185) := (blk_cell BK188.out 4).trans rfl; have hcz100_5 : w99.cell? ⟨gb188, 5, none⟩ = some (.int .i64 t186) := (blk_cell BK188.out 5).trans rfl; have hcz100_6 : w99.cell? ⟨gb188, 6, none⟩ = some (.int .i64 t187) := (blk_cell BK188.out 6).trans rfl; have hfz100_0 := blk_frozen BK188.out 0; have hfz100_1 := blk_frozen BK188.out 1; have hfz100_2 := blk_frozen BK188.out 2; have hfz100_3 := blk_frozen BK188.out 3; have hfz100_4 := blk_frozen BK188.out 4; have hfz100_5 := blk_frozen BK188.out 5; have hfz100_6 := blk_frozen BK188.out 6) | (go_at_call 31; (with_reducible refine (grid_Config_IsFirst.calls k2 t181 t182 t183 t184 t185 t186 t187 (Go.bits .or .u32 (Go.bits .andNot .u32 t192 x4_2) t193) true _ A88.out).mono ?_); rintro e w101 ⟨rfl, hb⟩; have n0_ := Aside0.mk (blk_below (g := gb173) (o := .cells #[.int .i64 a0_0, .int .i64 a0_1, .int .u32 a0_2, .int .i64 a0_3, .int .i64 a0_4, .int .i64 a0_5, .int .i64 a0_6] 52 (0, 0)) (by (with_reducible repeat (first | refine blk_drewN ?_ _ | refine blk_drew ?_ | refine blk_alloc ?_ _)); exact BK173.out) hb); have n1_ := Aside0.mk (blk_below (g := gb188) (o := .cells #[.int .i64 t181, .int .i64 t182, .int .u32 t183, .int .i64 t184, .int .i64 t185, .int .i64 t186, .int .i64 t187] 56 (0, 0)) (by (with_reducible repeat (first | refine blk_drewN ?_ _ | refine blk_drew ?_ | refine blk_alloc ?_ _)); exact BK188.out) hb); have n2_ := Aside0.mk (below_step (by repeat (first | (with_reducible first | exact HB.out | apply below_alloc | apply pw_below_drewN | apply below_drew1 | refine below_set ?_ GE173.out | refine below_set ?_ GE188.out) | exact HB.out)) hb); clear BK173; clear BK188; clear HB; have BK173 := n0_; have BK188 := n1_; have HB := n2_; clear n0_ n1_ n2_; (try clear hb); (try clear hb2); (try clear hk); (try clear hi)))
                    go_ret
                    exact ⟨by first | rfl | (simp [errW_none, errW_some] <;> rfl) | (simp [*, errW_none, errW_some] <;> rfl), by repeat (first | (with_reducible first | exact HB.out | apply below_alloc | apply pw_below_drewN | apply below_drew1 | refine below_set ?_ GE173.out | refine below_set ?_ GE188.out) | exact HB.out)⟩
                  · replace c89 := Bool.eq_false_iff.mpr c89
                    subst c89
                    have H1 : (chatelainetop_ChatelaineMeet.l0 k2 ((x4_2 + 1) % 4294967296) t181 t182 t183 t184 t185 t186 t187) = some r := by rw [if_neg (show ¬ (false = true) by decide)] at H; exact H
                    clear H
                    have H := H1
                    clear H1
                    have H' := Aside0.mk H
                    clear H
                    have hnb102 := NB188_173.out
                    have hnc102 := NB173_188.out
                    have hcz103_0 : wr.cell? ⟨gb188, 0, none⟩ = some (.int .i64 t181) := (blk_cell BK188.out 0).trans rfl
                    have hcz103_1 : wr.cell? ⟨gb188, 1, none⟩ = some (.int .i64 t182) := (blk_cell BK188.out 1).trans rfl
                    have hcz103_2 : wr.cell? ⟨gb188, 2, none⟩ = some (.int .u32 t183) := (blk_cell BK188.out 2).trans rfl
                    have hcz103_3 : wr.cell? ⟨gb188, 3, none⟩ = some (.int .i64 t184) := (blk_cell BK188.out 3).trans rfl
                    have hcz103_4 : wr.cell? ⟨gb188, 4, none⟩ = some (.int .i64 t185) := (blk_cell BK188.out 4).trans rfl
                    have hcz103_5 : wr.cell? ⟨gb188, 5, none⟩ = some (.int .i64 t186) := (blk_cell BK188.out 5).trans rfl
                    have hcz103_6 : wr.cell? ⟨gb188, 6, none⟩ = some (.int .i64 t187) := (blk_cell BK188.out 6).trans rfl
                    have hfz103_0 := blk_frozen BK188.out 0
                    have hfz103_1 := blk_frozen BK188.out 1
                    have hfz103_2 := blk_frozen BK188.out 2
                    have hfz103_3 := blk_frozen BK188.out 3
                    have hfz103_4 := blk_frozen BK188.out 4
                    have hfz103_5 := blk_frozen BK188.out 5
                    have hfz103_6 := blk_frozen BK188.out 6
                    try go_wp2_with (first | ((with_reducible refine gate_callee (f := 34) rfl ?_); refine goesL_ (some 19) rfl rfl Try.func34 (by kernel_rfl) rfl #[.agg #[.int .i64 t181, .int .i64 t182, .int .u32 t183, .int .i64 t184, .int .i64 t185, .int .i64 t186, .int .i64 t187]] rfl (by (try simp only [List.map_toArray, List.map_cons, List.map_nil]); first | done | rfl | (simp only [List.length_drop, List.length_take]; rfl)) ?_; (with_reducible refine (grid_Config_All.calls k2 t181 t182 t183 t184 t185 t186 t187 t191 _ A24.out).mono ?_); rintro e w104 ⟨rfl, hb⟩; refine ⟨_, rfl, ?_⟩; have n0_ := Aside0.mk (blk_below (g := gb173) (o := .cells #[.int .i64 a0_0, .int .i64 a0_1, .int .u32 a0_2, .int .i64 a0_3, .int .i64 a0_4, .int .i64 a0_5, .int .i64 a0_6] 52 (0, 0)) (by (with_reducible repeat (first | refine blk_drewN ?_ _ | refine blk_drew ?_ | refine blk_alloc ?_ _)); exact BK173.out) hb); have n1_ := Aside0.mk (blk_below (g := gb188) (o := .cells #[.int .i64 t181, .int .i64 t182, .int .u32 t183, .int .i64 t184, .int .i64 t185, .int .i64 t186, .int .i64 t187] 56 (0, 0)) (by (with_reducible repeat (first | refine blk_drewN ?_ _ | refine blk_drew ?_ | refine blk_alloc ?_ _)); exact BK188.out) hb); have n2_ := Aside0.mk (below_step (by repeat (first | (with_reducible first | exact HB.out | apply below_alloc | apply pw_below_drewN | apply below_drew1 | refine below_set ?_ GE173.out | refine below_set ?_ GE188.out) | exact HB.out)) hb); clear BK173; clear BK188; clear HB; have BK173 := n0_; have BK188 := n1_; have HB := n2_; clear n0_ n1_ n2_; (try clear hb); (try clear hb2); (try clear hk); (try clear hi)))
                    have n0_ := Aside0.mk (blk_drew BK173.out)
                    have n1_ := Aside0.mk (blk_drew BK188.out)
                    have n2_ := Aside0.mk (below_drew1 HB.out)
                    clear BK173
                    clear BK188
                    clear HB
                    have BK173 := n0_
                    have BK188 := n1_
                    have HB := n2_
                    clear n0_ n1_ n2_
                    refine start_ (n := 8) (S := fun w' => w'.cell? ⟨gb188, 0, none⟩ = some (.int .i64 t181) ∧ w'.cell? ⟨gb188, 1, none⟩ = some (.int .i64 t182) ∧ w'.cell? ⟨gb188, 2, none⟩ = some (.int .u32 t183) ∧ w'.cell? ⟨gb188, 3, none⟩ = some (.int .i64 t184) ∧ w'.cell? ⟨gb188, 4, none⟩ = some (.int .i64 t185) ∧ w'.cell? ⟨gb188, 5, none⟩ = some (.int .i64 t186) ∧ w'.cell? ⟨gb188, 6, none⟩ = some (.int .i64 t187)) (ds := []) #[false, false, false, false, false, false, false, false] (by kernel_rfl) rfl rfl ⟨(blk_cell BK188.out 0).trans rfl, (blk_cell BK188.out 1).trans rfl, (blk_cell BK188.out 2).trans rfl, (blk_cell BK188.out 3).trans rfl, (blk_cell BK188.out 4).trans rfl, (blk_cell BK188.out 5).trans rfl, (blk_cell BK188.out 6).trans rfl⟩ (fun hHeld => ?_); refine with_tabW chatelainetop_ChatelaineMeet.tab7 chatelainetop_ChatelaineMeet.bits7 (fun HT_ HW_ => ?_)
                    generalize w104.drew = w105 at BK173 BK188 HB hHeld ⊢
                    refine pure_ (i := 2) (N := some 25) (v := ?_) (a' := ?_) #[false, false, true, false, false, false, false, false] rfl rfl (any_of HT_.out (by kernel_rfl)) (fun _ _ _ h => h) (Or.inl ⟨by rfl, ?_⟩) ?_ ?_
                    rotate_left
                    · intro w'
                      go_simp
                      with_reducible rfl
                    rotate_left
                    · simp only [Act.put, List.setIfInBounds_toArray, List.set_cons_zero, List.set_cons_succ, i64_w, i32_w]
                      rfl
                    refine take_ (i := 0) (N := some 23) (v := ?_) (a' := ?_) #[true, false, true, false, false, false, false, false] rfl rfl (take_ofW HT_.out HW_.out (by kernel_rfl)) (fun _ _ _ h => h) (Or.inl ⟨by rfl, ?_⟩) hHeld ?_ ?_
                    rotate_left
                    · rintro w' ⟨s0, s1, s2, s3, s4, s5, s6⟩
                      go_simp
                      with_reducible rfl
                    rotate_left
                    · simp only [Act.put, List.setIfInBounds_toArray, List.set_cons_zero, List.set_cons_succ, i64_w, i32_w]
                      rfl
                    refine take_ (i := 4) (N := some 27) (v := ?_) (a' := ?_) #[true, false, true, false, true, false, false, false] rfl rfl (take_ofW HT_.out HW_.out (by kernel_rfl)) (fun _ _ _ h => h) (Or.inl ⟨by rfl, ?_⟩) hHeld ?_ ?_
                    rotate_left
                    · rintro w' ⟨s0, s1, s2, s3, s4, s5, s6⟩
                      go_simp
                      with_reducible rfl
                    rotate_left
                    · simp only [Act.put, List.setIfInBounds_toArray, List.set_cons_zero, List.set_cons_succ, i64_w, i32_w]
                      rfl
                    refine one_ (i := 1) (N := some 24) #[true, true, true, false, true, false, false, false] rfl rfl (one_of HT_.out (by kernel_rfl)) (by decide) (fun K hK => ?_)
                    refine goes_ Try.func34 (by kernel_rfl) rfl #[.agg #[.int .i64 t181, .int .i64 t182, .int .u32 t183, .int .i64 t184, .int .i64 t185, .int .i64 t186, .int .i64 t187]] (by rfl) rfl rfl (by (try simp only [List.map_toArray, List.map_cons, List.map_nil]); first | done | rfl | (simp only [List.length_drop, List.length_take]; rfl)) ?_
                    with_reducible refine (grid_Config_All.calls k2 t181 t182 t183 t184 t185 t186 t187 t192 _ A26.out).mono ?_
                    rintro e w106 ⟨rfl, hb⟩
                    refine ⟨_, rfl, ?_⟩
                    have n0_ := Aside0.mk (blk_below (g := gb173) (o := .cells #[.int .i64 a0_0, .int .i64 a0_1, .int .u32 a0_2, .int .i64 a0_3, .int .i64 a0_4, .int .i64 a0_5, .int .i64 a0_6] 52 (0, 0)) (by (with_reducible repeat (first | refine blk_drewN ?_ _ | refine blk_drew ?_ | refine blk_alloc ?_ _)); exact BK173.out) hb)
                    have n1_ := Aside0.mk (blk_below (g := gb188) (o := .cells #[.int .i64 t181, .int .i64 t182, .int .u32 t183, .int .i64 t184, .int .i64 t185, .int .i64 t186, .int .i64 t187] 56 (0, 0)) (by (with_reducible repeat (first | refine blk_drewN ?_ _ | refine blk_drew ?_ | refine blk_alloc ?_ _)); exact BK188.out) hb)
                    have n2_ := Aside0.mk (below_step (by repeat (first | (with_reducible first | exact HB.out | apply below_alloc | apply pw_below_drewN | apply below_drew1 | refine below_set ?_ GE173.out | refine below_set ?_ GE188.out) | exact HB.out)) hb)
                    clear BK173
                    clear BK188
                    clear HB
                    have BK173 := n0_
                    have BK188 := n1_
                    have HB := n2_
                    clear n0_ n1_ n2_
                    (try clear hb)
                    (try clear hb2)
                    (try clear hk)
                    (try clear hi)
                    refine hK.out _ _ ⟨(blk_cell BK188.out 0).trans rfl, (blk_cell BK188.out 1).trans rfl, (blk_cell BK188.out 2).trans rfl, (blk_cell BK188.out 3).trans rfl, (blk_cell BK188.out 4).trans rfl, (blk_cell BK188.out 5).trans rfl, (blk_cell BK188.out 6).trans rfl⟩ (fun hHeld => ?_)
                    clear hK K
                    refine norm_ (a' := ?_) ?_ ?_
                    rotate_left
                    · show Act.put _ (some 24) _ = _
                      simp only [Act.put, List.setIfInBounds_toArray, List.set_cons_zero, List.set_cons_succ, i64_w, i32_w]
                      rfl
                    refine pure_ (i := 3) (N := some 26) (v := ?_) (a' := ?_) #[true, true, true, true, true, false, false, false] rfl rfl (any_of HT_.out (by kernel_rfl)) (fun _ _ _ h => h) (Or.inl ⟨by rfl, ?_⟩) ?_ ?_
                    rotate_left
                    · intro w'
                      go_simp
                      with_reducible rfl
                    rotate_left
                    · simp only [Act.put, List.setIfInBounds_toArray, List.set_cons_zero, List.set_cons_succ, i64_w, i32_w]
                      rfl
                    refine one_ (i := 5) (N := some 28) #[true, true, true, true, true, true, false, false] rfl rfl (one_of HT_.out (by kernel_rfl)) (by decide) (fun K hK => ?_)
                    refine goes_ Try.func35 (by kernel_rfl) rfl #[.agg #[.int .i64 t181, .int .i64 t182, .int .u32 t183, .int .i64 t184, .int .i64 t185, .int .i64 t186, .int .i64 t187]] (by rfl) rfl rfl (by (try simp only [List.map_toArray, List.map_cons, List.map_nil]); first | done | rfl | (simp only [List.length_drop, List.length_take]; rfl)) ?_
                    with_reducible refine (grid_Config_Witnesses.calls k2 t181 t182 t183 t184 t185 t186 t187 t193 _ A27.out).mono ?_
                    rintro e w107 ⟨rfl, hb⟩
                    refine ⟨_, rfl, ?_⟩
                    have n0_ := Aside0.mk (blk_below (g := gb173) (o := .cells #[.int .i64 a0_0, .int .i64 a0_1, .int .u32 a0_2, .int .i64 a0_3, .int .i64 a0_4, .int .i64 a0_5, .int .i64 a0_6] 52 (0, 0)) (by (with_reducible repeat (first | refine blk_drewN ?_ _ | refine blk_drew ?_ | refine blk_alloc ?_ _)); exact BK173.out) hb)
                    have n1_ := Aside0.mk (blk_below (g := gb188) (o := .cells #[.int .i64 t181, .int .i64 t182, .int .u32 t183, .int .i64 t184, .int .i64 t185, .int .i64 t186, .int .i64 t187] 56 (0, 0)) (by (with_reducible repeat (first | refine blk_drewN ?_ _ | refine blk_drew ?_ | refine blk_alloc ?_ _)); exact BK188.out) hb)
                    have n2_ := Aside0.mk (below_step (by repeat (first | (with_reducible first | exact HB.out | apply below_alloc | apply pw_below_drewN | apply below_drew1 | refine below_set ?_ GE173.out | refine below_set ?_ GE188.out) | exact HB.out)) hb)
                    clear BK173
                    clear BK188
                    clear HB
                    have BK173 := n0_
                    have BK188 := n1_
                    have HB := n2_
                    clear n0_ n1_ n2_
                    (try clear hb)
                    (try clear hb2)
                    (try clear hk)
                    (try clear hi)
                    refine hK.out _ _ ⟨(blk_cell BK188.out 0).trans rfl, (blk_cell BK188.out 1).trans rfl, (blk_cell BK188.out 2).trans rfl, (blk_cell BK188.out 3).trans rfl, (blk_cell BK188.out 4).trans rfl, (blk_cell BK188.out 5).trans rfl, (blk_cell BK188.out 6).trans rfl⟩ (fun hHeld => ?_)
                    clear hK K
                    refine norm_ (a' := ?_) ?_ ?_
                    rotate_left
                    · show Act.put _ (some 28) _ = _
                      simp only [Act.put, List.setIfInBounds_toArray, List.set_cons_zero, List.set_cons_succ, i64_w, i32_w]
                      rfl
                    refine pure_ (i := 6) (N := some 29) (v := ?_) (a' := ?_) #[true, true, true, true, true, true, true, false] rfl rfl (any_of HT_.out (by kernel_rfl)) (fun _ _ _ h => h) (Or.inl ⟨by rfl, ?_⟩) ?_ ?_
                    rotate_left
                    · intro w'
                      go_simp
                      with_reducible rfl
                    rotate_left
                    · simp only [Act.put, List.setIfInBounds_toArray, List.set_cons_zero, List.set_cons_succ, i64_w, i32_w]
                      rfl
                    refine pure_ (i := 7) (N := some 5) (v := ?_) (a' := ?_) #[true, true, true, true, true, true, true, true] rfl rfl (any_of HT_.out (by kernel_rfl)) (fun _ _ _ h => h) (Or.inl ⟨by rfl, ?_⟩) ?_ ?_
                    rotate_left
                    · intro w'
                      go_simp
                      with_reducible rfl
                    rotate_left
                    · simp only [Act.put, List.setIfInBounds_toArray, List.set_cons_zero, List.set_cons_succ, i64_w, i32_w]
                      rfl
                    refine done_ (done_of HT_.out (by kernel_rfl)) ?_
                    have hcz108_0 : w107.cell? ⟨gb188, 0, none⟩ = some (.int .i64 t181) := (blk_cell BK188.out 0).trans rfl
                    have hcz108_1 : w107.cell? ⟨gb188, 1, none⟩ = some (.int .i64 t182) := (blk_cell BK188.out 1).trans rfl
                    have hcz108_2 : w107.cell? ⟨gb188, 2, none⟩ = some (.int .u32 t183) := (blk_cell BK188.out 2).trans rfl
                    have hcz108_3 : w107.cell? ⟨gb188, 3, none⟩ = some (.int .i64 t184) := (blk_cell BK188.out 3).trans rfl
                    have hcz108_4 : w107.cell? ⟨gb188, 4, none⟩ = some (.int .i64 t185) := (blk_cell BK188.out 4).trans rfl
                    have hcz108_5 : w107.cell? ⟨gb188, 5, none⟩ = some (.int .i64 t186) := (blk_cell BK188.out 5).trans rfl
                    have hcz108_6 : w107.cell? ⟨gb188, 6, none⟩ = some (.int .i64 t187) := (blk_cell BK188.out 6).trans rfl
                    have hfz108_0 := blk_frozen BK188.out 0
                    have hfz108_1 := blk_frozen BK188.out 1
                    have hfz108_2 := blk_frozen BK188.out 2
                    have hfz108_3 := blk_frozen BK188.out 3
                    have hfz108_4 := blk_frozen BK188.out 4
                    have hfz108_5 := blk_frozen BK188.out 5
                    have hfz108_6 := blk_frozen BK188.out 6
                    try go_wp2_with (first | ((with_reducible refine gate_callee (f := 31) rfl ?_); refine goesL_ (some 32) rfl rfl Try.func31 (by kernel_rfl) rfl #[.agg #[.int .i64 t181, .int .i64 t182, .int .u32 t183, .int .i64 t184, .int .i64 t185, .int .i64 t186, .int .i64 t187], .int .u32 x4_2] rfl (by (try simp only [List.map_toArray, List.map_cons, List.map_nil]); first | done | rfl | (simp only [List.length_drop, List.length_take]; rfl)) ?_; (with_reducible refine (grid_Config_IsFirst.calls k2 t181 t182 t183 t184 t185 t186 t187 x4_2 false _ A28.out).mono ?_); rintro e w109 ⟨rfl, hb⟩; refine ⟨_, rfl, ?_⟩; have n0_ := Aside0.mk (blk_below (g := gb173) (o := .cells #[.int .i64 a0_0, .int .i64 a0_1, .int .u32 a0_2, .int .i64 a0_3, .int .i64 a0_4, .int .i64 a0_5, .int .i64 a0_6] 52 (0, 0)) (by (with_reducible repeat (first | refine blk_drewN ?_ _ | refine blk_drew ?_ | refine blk_alloc ?_ _)); exact BK173.out) hb); have n1_ := Aside0.mk (blk_below (g := gb188) (o := .cells #[.int .i64 t181, .int .i64 t182, .int .u32 t183, .int .i64 t184, .int .i64 t185, .int .i64 t186, .int .i64 t187] 56 (0, 0)) (by (with_reducible repeat (first | refine blk_drewN ?_ _ | refine blk_drew ?_ | refine blk_alloc ?_ _)); exact BK188.out) hb); have n2_ := Aside0.mk (below_step (by repeat (first | (with_reducible first | exact HB.out | apply below_alloc | apply pw_below_drewN | apply below_drew1 | refine below_set ?_ GE173.out | refine below_set ?_ GE188.out) | exact HB.out)) hb); clear BK173; clear BK188; clear HB; have BK173 := n0_; have BK188 := n1_; have HB := n2_; clear n0_ n1_ n2_; (try clear hb); (try clear hb2); (try clear hk); (try clear hi); have hcz110_0 : w109.cell? ⟨gb188, 0, none⟩ = some (.int .i64 t181) := (blk_cell BK188.out 0).trans rfl; have hcz110_1 : w109.cell? ⟨gb188, 1, none⟩ = some (.int .i64 t182) := (blk_cell BK188.out 1).trans rfl; have hcz110_2 : w109.cell? ⟨gb188, 2, none⟩ = some (.int .u32 t183) := (blk_cell BK188.out 2).trans rfl; have hcz110_3 : w109.cell? ⟨gb188, 3, none⟩ = some (.int .i64 t184) := (blk_cell BK188.out 3).trans rfl; have hcz110_4 : w109.cell? ⟨gb188, 4, none⟩ = some (.int .i64 t185) := (blk_cell BK188.out 4).trans rfl; have hcz110_5 : w109.cell? ⟨gb188, 5, none⟩ = some (.int .i64 t186) := (blk_cell BK188.out 5).trans rfl; have hcz110_6 : w109.cell? ⟨gb188, 6, none⟩ = some (.int .i64 t187) := (blk_cell BK188.out 6).trans rfl; have hfz110_0 := blk_frozen BK188.out 0; have hfz110_1 := blk_frozen BK188.out 1; have hfz110_2 := blk_frozen BK188.out 2; have hfz110_3 := blk_frozen BK188.out 3; have hfz110_4 := blk_frozen BK188.out 4; have hfz110_5 := blk_frozen BK188.out 5; have hfz110_6 := blk_frozen BK188.out 6) | (go_at_call 33; (with_reducible refine (grid_Config_IsSecond.calls k2 t181 t182 t183 t184 t185 t186 t187 x4_2 true _ A86.out).mono ?_); rintro e w111 ⟨rfl, hb⟩; have n0_ := Aside0.mk (blk_below (g := gb173) (o := .cells #[.int .i64 a0_0, .int .i64 a0_1, .int .u32 a0_2, .int .i64 a0_3, .int .i64 a0_4, .int .i64 a0_5, .int .i64 a0_6] 52 (0, 0)) (by (with_reducible repeat (first | refine blk_drewN ?_ _ | refine blk_drew ?_ | refine blk_alloc ?_ _)); exact BK173.out) hb); have n1_ := Aside0.mk (blk_below (g := gb188) (o := .cells #[.int .i64 t181, .int .i64 t182, .int .u32 t183, .int .i64 t184, .int .i64 t185, .int .i64 t186, .int .i64 t187] 56 (0, 0)) (by (with_reducible repeat (first | refine blk_drewN ?_ _ | refine blk_drew ?_ | refine blk_alloc ?_ _)); exact BK188.out) hb); have n2_ := Aside0.mk (below_step (by repeat (first | (with_reducible first | exact HB.out | apply below_alloc | apply pw_below_drewN | apply below_drew1 | refine below_set ?_ GE173.out | refine below_set ?_ GE188.out) | exact HB.out)) hb); clear BK173; clear BK188; clear HB; have BK173 := n0_; have BK188 := n1_; have HB := n2_; clear n0_ n1_ n2_; (try clear hb); (try clear hb2); (try clear hk); (try clear hi); have hcz112_0 : w111.cell? ⟨gb188, 0, none⟩ = some (.int .i64 t181) := (blk_cell BK188.out 0).trans rfl; have hcz112_1 : w111.cell? ⟨gb188, 1, none⟩ = some (.int .i64 t182) := (blk_cell BK188.out 1).trans rfl; have hcz112_2 : w111.cell? ⟨gb188, 2, none⟩ = some (.int .u32 t183) := (blk_cell BK188.out 2).trans rfl; have hcz112_3 : w111.cell? ⟨gb188, 3, none⟩ = some (.int .i64 t184) := (blk_cell BK188.out 3).trans rfl; have hcz112_4 : w111.cell? ⟨gb188, 4, none⟩ = some (.int .i64 t185) := (blk_cell BK188.out 4).trans rfl; have hcz112_5 : w111.cell? ⟨gb188, 5, none⟩ = some (.int .i64 t186) := (blk_cell BK188.out 5).trans rfl; have hcz112_6 : w111.cell? ⟨gb188, 6, none⟩ = some (.int .i64 t187) := (blk_cell BK188.out 6).trans rfl; have hfz112_0 := blk_frozen BK188.out 0; have hfz112_1 := blk_frozen BK188.out 1; have hfz112_2 := blk_frozen BK188.out 2; have hfz112_3 := blk_frozen BK188.out 3; have hfz112_4 := blk_frozen BK188.out 4; have hfz112_5 := blk_frozen BK188.out 5; have hfz112_6 := blk_frozen BK188.out 6) | (go_at_call 31; (with_reducible refine (grid_Config_IsFirst.calls k2 t181 t182 t183 t184 t185 t186 t187 (Go.bits .or .u32 (Go.bits .andNot .u32 t192 x4_2) t193) false _ A88.out).mono ?_); rintro e w113 ⟨rfl, hb⟩; have n0_ := Aside0.mk (blk_below (g := gb173) (o := .cells #[.int .i64 a0_0, .int .i64 a0_1, .int .u32 a0_2, .int .i64 a0_3, .int .i64 a0_4, .int .i64 a0_5, .int .i64 a0_6] 52 (0, 0)) (by (with_reducible repeat (first | refine blk_drewN ?_ _ | refine blk_drew ?_ | refine blk_alloc ?_ _)); exact BK173.out) hb); have n1_ := Aside0.mk (blk_below (g := gb188) (o := .cells #[.int .i64 t181, .int .i64 t182, .int .u32 t183, .int .i64 t184, .int .i64 t185, .int .i64 t186, .int .i64 t187] 56 (0, 0)) (by (with_reducible repeat (first | refine blk_drewN ?_ _ | refine blk_drew ?_ | refine blk_alloc ?_ _)); exact BK188.out) hb); have n2_ := Aside0.mk (below_step (by repeat (first | (with_reducible first | exact HB.out | apply below_alloc | apply pw_below_drewN | apply below_drew1 | refine below_set ?_ GE173.out | refine below_set ?_ GE188.out) | exact HB.out)) hb); clear BK173; clear BK188; clear HB; have BK173 := n0_; have BK188 := n1_; have HB := n2_; clear n0_ n1_ n2_; (try clear hb); (try clear hb2); (try clear hk); (try clear hi)))
                    go_roundg k2
                    case measure => have := HJ3.out; have := HK2.out; omega
                    case rel => exact ⟨((x4_2 + 1) % 4294967296), (by first | rfl | (simp; done) | (simp [*]; done)), H', ⟨by have := HJ3.out; have := HK2.out; omega⟩, ⟨by (with_reducible repeat (first | refine blk_drewN ?_ _ | refine blk_drew ?_ | refine blk_alloc ?_ _)); exact BK173.out⟩, ⟨by (with_reducible repeat (first | refine blk_drewN ?_ _ | refine blk_drew ?_ | refine blk_alloc ?_ _)); exact BK188.out⟩, ⟨by repeat (first | (with_reducible first | exact HB.out | apply below_alloc | apply pw_below_drewN | apply below_drew1 | refine below_set ?_ GE173.out | refine below_set ?_ GE188.out) | exact HB.out)⟩⟩
                · replace c87 := Bool.eq_false_iff.mpr c87
                  subst c87
                  have H1 : (chatelainetop_ChatelaineMeet.l0 k2 ((x4_2 + 1) % 4294967296) t181 t182 t183 t184 t185 t186 t187) = some r := by rw [if_neg (show ¬ (false = true) by decide)] at H; exact H
                  clear H
                  have H := H1
                  clear H1
                  have H' := Aside0.mk H
                  clear H
                  have hnb114 := NB188_173.out
                  have hnc114 := NB173_188.out
                  have hcz115_0 : wr.cell? ⟨gb188, 0, none⟩ = some (.int .i64 t181) := (blk_cell BK188.out 0).trans rfl
                  have hcz115_1 : wr.cell? ⟨gb188, 1, none⟩ = some (.int .i64 t182) := (blk_cell BK188.out 1).trans rfl
                  have hcz115_2 : wr.cell? ⟨gb188, 2, none⟩ = some (.int .u32 t183) := (blk_cell BK188.out 2).trans rfl
                  have hcz115_3 : wr.cell? ⟨gb188, 3, none⟩ = some (.int .i64 t184) := (blk_cell BK188.out 3).trans rfl
                  have hcz115_4 : wr.cell? ⟨gb188, 4, none⟩ = some (.int .i64 t185) := (blk_cell BK188.out 4).trans rfl
                  have hcz115_5 : wr.cell? ⟨gb188, 5, none⟩ = some (.int .i64 t186) := (blk_cell BK188.out 5).trans rfl
                  have hcz115_6 : wr.cell? ⟨gb188, 6, none⟩ = some (.int .i64 t187) := (blk_cell BK188.out 6).trans rfl
                  have hfz115_0 := blk_frozen BK188.out 0
                  have hfz115_1 := blk_frozen BK188.out 1
                  have hfz115_2 := blk_frozen BK188.out 2
                  have hfz115_3 := blk_frozen BK188.out 3
                  have hfz115_4 := blk_frozen BK188.out 4
                  have hfz115_5 := blk_frozen BK188.out 5
                  have hfz115_6 := blk_frozen BK188.out 6
                  try go_wp2_with (first | ((with_reducible refine gate_callee (f := 34) rfl ?_); refine goesL_ (some 19) rfl rfl Try.func34 (by kernel_rfl) rfl #[.agg #[.int .i64 t181, .int .i64 t182, .int .u32 t183, .int .i64 t184, .int .i64 t185, .int .i64 t186, .int .i64 t187]] rfl (by (try simp only [List.map_toArray, List.map_cons, List.map_nil]); first | done | rfl | (simp only [List.length_drop, List.length_take]; rfl)) ?_; (with_reducible refine (grid_Config_All.calls k2 t181 t182 t183 t184 t185 t186 t187 t191 _ A24.out).mono ?_); rintro e w116 ⟨rfl, hb⟩; refine ⟨_, rfl, ?_⟩; have n0_ := Aside0.mk (blk_below (g := gb173) (o := .cells #[.int .i64 a0_0, .int .i64 a0_1, .int .u32 a0_2, .int .i64 a0_3, .int .i64 a0_4, .int .i64 a0_5, .int .i64 a0_6] 52 (0, 0)) (by (with_reducible repeat (first | refine blk_drewN ?_ _ | refine blk_drew ?_ | refine blk_alloc ?_ _)); exact BK173.out) hb); have n1_ := Aside0.mk (blk_below (g := gb188) (o := .cells #[.int .i64 t181, .int .i64 t182, .int .u32 t183, .int .i64 t184, .int .i64 t185, .int .i64 t186, .int .i64 t187] 56 (0, 0)) (by (with_reducible repeat (first | refine blk_drewN ?_ _ | refine blk_drew ?_ | refine blk_alloc ?_ _)); exact BK188.out) hb); have n2_ := Aside0.mk (below_step (by repeat (first | (with_reducible first | exact HB.out | apply below_alloc | apply pw_below_drewN | apply below_drew1 | refine below_set ?_ GE173.out | refine below_set ?_ GE188.out) | exact HB.out)) hb); clear BK173; clear BK188; clear HB; have BK173 := n0_; have BK188 := n1_; have HB := n2_; clear n0_ n1_ n2_; (try clear hb); (try clear hb2); (try clear hk); (try clear hi)))
                  have n0_ := Aside0.mk (blk_drew BK173.out)
                  have n1_ := Aside0.mk (blk_drew BK188.out)
                  have n2_ := Aside0.mk (below_drew1 HB.out)
                  clear BK173
                  clear BK188
                  clear HB
                  have BK173 := n0_
                  have BK188 := n1_
                  have HB := n2_
                  clear n0_ n1_ n2_
                  refine start_ (n := 8) (S := fun w' => w'.cell? ⟨gb188, 0, none⟩ = some (.int .i64 t181) ∧ w'.cell? ⟨gb188, 1, none⟩ = some (.int .i64 t182) ∧ w'.cell? ⟨gb188, 2, none⟩ = some (.int .u32 t183) ∧ w'.cell? ⟨gb188, 3, none⟩ = some (.int .i64 t184) ∧ w'.cell? ⟨gb188, 4, none⟩ = some (.int .i64 t185) ∧ w'.cell? ⟨gb188, 5, none⟩ = some (.int .i64 t186) ∧ w'.cell? ⟨gb188, 6, none⟩ = some (.int .i64 t187)) (ds := []) #[false, false, false, false, false, false, false, false] (by kernel_rfl) rfl rfl ⟨(blk_cell BK188.out 0).trans rfl, (blk_cell BK188.out 1).trans rfl, (blk_cell BK188.out 2).trans rfl, (blk_cell BK188.out 3).trans rfl, (blk_cell BK188.out 4).trans rfl, (blk_cell BK188.out 5).trans rfl, (blk_cell BK188.out 6).trans rfl⟩ (fun hHeld => ?_); refine with_tabW chatelainetop_ChatelaineMeet.tab7 chatelainetop_ChatelaineMeet.bits7 (fun HT_ HW_ => ?_)
                  generalize w116.drew = w117 at BK173 BK188 HB hHeld ⊢
                  refine pure_ (i := 2) (N := some 25) (v := ?_) (a' := ?_) #[false, false, true, false, false, false, false, false] rfl rfl (any_of HT_.out (by kernel_rfl)) (fun _ _ _ h => h) (Or.inl ⟨by rfl, ?_⟩) ?_ ?_
                  rotate_left
                  · intro w'
                    go_simp
                    with_reducible rfl
                  rotate_left
                  · simp only [Act.put, List.setIfInBounds_toArray, List.set_cons_zero, List.set_cons_succ, i64_w, i32_w]
                    rfl
                  refine take_ (i := 0) (N := some 23) (v := ?_) (a' := ?_) #[true, false, true, false, false, false, false, false] rfl rfl (take_ofW HT_.out HW_.out (by kernel_rfl)) (fun _ _ _ h => h) (Or.inl ⟨by rfl, ?_⟩) hHeld ?_ ?_
                  rotate_left
                  · rintro w' ⟨s0, s1, s2, s3, s4, s5, s6⟩
                    go_simp
                    with_reducible rfl
                  rotate_left
                  · simp only [Act.put, List.setIfInBounds_toArray, List.set_cons_zero, List.set_cons_succ, i64_w, i32_w]
                    rfl
                  refine take_ (i := 4) (N := some 27) (v := ?_) (a' := ?_) #[true, false, true, false, true, false, false, false] rfl rfl (take_ofW HT_.out HW_.out (by kernel_rfl)) (fun _ _ _ h => h) (Or.inl ⟨by rfl, ?_⟩) hHeld ?_ ?_
                  rotate_left
                  · rintro w' ⟨s0, s1, s2, s3, s4, s5, s6⟩
                    go_simp
                    with_reducible rfl
                  rotate_left
                  · simp only [Act.put, List.setIfInBounds_toArray, List.set_cons_zero, List.set_cons_succ, i64_w, i32_w]
                    rfl
                  refine one_ (i := 1) (N := some 24) #[true, true, true, false, true, false, false, false] rfl rfl (one_of HT_.out (by kernel_rfl)) (by decide) (fun K hK => ?_)
                  refine goes_ Try.func34 (by kernel_rfl) rfl #[.agg #[.int .i64 t181, .int .i64 t182, .int .u32 t183, .int .i64 t184, .int .i64 t185, .int .i64 t186, .int .i64 t187]] (by rfl) rfl rfl (by (try simp only [List.map_toArray, List.map_cons, List.map_nil]); first | done | rfl | (simp only [List.length_drop, List.length_take]; rfl)) ?_
                  with_reducible refine (grid_Config_All.calls k2 t181 t182 t183 t184 t185 t186 t187 t192 _ A26.out).mono ?_
                  rintro e w118 ⟨rfl, hb⟩
                  refine ⟨_, rfl, ?_⟩
                  have n0_ := Aside0.mk (blk_below (g := gb173) (o := .cells #[.int .i64 a0_0, .int .i64 a0_1, .int .u32 a0_2, .int .i64 a0_3, .int .i64 a0_4, .int .i64 a0_5, .int .i64 a0_6] 52 (0, 0)) (by (with_reducible repeat (first | refine blk_drewN ?_ _ | refine blk_drew ?_ | refine blk_alloc ?_ _)); exact BK173.out) hb)
                  have n1_ := Aside0.mk (blk_below (g := gb188) (o := .cells #[.int .i64 t181, .int .i64 t182, .int .u32 t183, .int .i64 t184, .int .i64 t185, .int .i64 t186, .int .i64 t187] 56 (0, 0)) (by (with_reducible repeat (first | refine blk_drewN ?_ _ | refine blk_drew ?_ | refine blk_alloc ?_ _)); exact BK188.out) hb)
                  have n2_ := Aside0.mk (below_step (by repeat (first | (with_reducible first | exact HB.out | apply below_alloc | apply pw_below_drewN | apply below_drew1 | refine below_set ?_ GE173.out | refine below_set ?_ GE188.out) | exact HB.out)) hb)
                  clear BK173
                  clear BK188
                  clear HB
                  have BK173 := n0_
                  have BK188 := n1_
                  have HB := n2_
                  clear n0_ n1_ n2_
                  (try clear hb)
                  (try clear hb2)
                  (try clear hk)
                  (try clear hi)
                  refine hK.out _ _ ⟨(blk_cell BK188.out 0).trans rfl, (blk_cell BK188.out 1).trans rfl, (blk_cell BK188.out 2).trans rfl, (blk_cell BK188.out 3).trans rfl, (blk_cell BK188.out 4).trans rfl, (blk_cell BK188.out 5).trans rfl, (blk_cell BK188.out 6).trans rfl⟩ (fun hHeld => ?_)
                  clear hK K
                  refine norm_ (a' := ?_) ?_ ?_
                  rotate_left
                  · show Act.put _ (some 24) _ = _
                    simp only [Act.put, List.setIfInBounds_toArray, List.set_cons_zero, List.set_cons_succ, i64_w, i32_w]
                    rfl
                  refine pure_ (i := 3) (N := some 26) (v := ?_) (a' := ?_) #[true, true, true, true, true, false, false, false] rfl rfl (any_of HT_.out (by kernel_rfl)) (fun _ _ _ h => h) (Or.inl ⟨by rfl, ?_⟩) ?_ ?_
                  rotate_left
                  · intro w'
                    go_simp
                    with_reducible rfl
                  rotate_left
                  · simp only [Act.put, List.setIfInBounds_toArray, List.set_cons_zero, List.set_cons_succ, i64_w, i32_w]
                    rfl
                  refine one_ (i := 5) (N := some 28) #[true, true, true, true, true, true, false, false] rfl rfl (one_of HT_.out (by kernel_rfl)) (by decide) (fun K hK => ?_)
                  refine goes_ Try.func35 (by kernel_rfl) rfl #[.agg #[.int .i64 t181, .int .i64 t182, .int .u32 t183, .int .i64 t184, .int .i64 t185, .int .i64 t186, .int .i64 t187]] (by rfl) rfl rfl (by (try simp only [List.map_toArray, List.map_cons, List.map_nil]); first | done | rfl | (simp only [List.length_drop, List.length_take]; rfl)) ?_
                  with_reducible refine (grid_Config_Witnesses.calls k2 t181 t182 t183 t184 t185 t186 t187 t193 _ A27.out).mono ?_
                  rintro e w119 ⟨rfl, hb⟩
                  refine ⟨_, rfl, ?_⟩
                  have n0_ := Aside0.mk (blk_below (g := gb173) (o := .cells #[.int .i64 a0_0, .int .i64 a0_1, .int .u32 a0_2, .int .i64 a0_3, .int .i64 a0_4, .int .i64 a0_5, .int .i64 a0_6] 52 (0, 0)) (by (with_reducible repeat (first | refine blk_drewN ?_ _ | refine blk_drew ?_ | refine blk_alloc ?_ _)); exact BK173.out) hb)
                  have n1_ := Aside0.mk (blk_below (g := gb188) (o := .cells #[.int .i64 t181, .int .i64 t182, .int .u32 t183, .int .i64 t184, .int .i64 t185, .int .i64 t186, .int .i64 t187] 56 (0, 0)) (by (with_reducible repeat (first | refine blk_drewN ?_ _ | refine blk_drew ?_ | refine blk_alloc ?_ _)); exact BK188.out) hb)
                  have n2_ := Aside0.mk (below_step (by repeat (first | (with_reducible first | exact HB.out | apply below_alloc | apply pw_below_drewN | apply below_drew1 | refine below_set ?_ GE173.out | refine below_set ?_ GE188.out) | exact HB.out)) hb)
                  clear BK173
                  clear BK188
                  clear HB
                  have BK173 := n0_
                  have BK188 := n1_
                  have HB := n2_
                  clear n0_ n1_ n2_
                  (try clear hb)
                  (try clear hb2)
                  (try clear hk)
                  (try clear hi)
                  refine hK.out _ _ ⟨(blk_cell BK188.out 0).trans rfl, (blk_cell BK188.out 1).trans rfl, (blk_cell BK188.out 2).trans rfl, (blk_cell BK188.out 3).trans rfl, (blk_cell BK188.out 4).trans rfl, (blk_cell BK188.out 5).trans rfl, (blk_cell BK188.out 6).trans rfl⟩ (fun hHeld => ?_)
                  clear hK K
                  refine norm_ (a' := ?_) ?_ ?_
                  rotate_left
                  · show Act.put _ (some 28) _ = _
                    simp only [Act.put, List.setIfInBounds_toArray, List.set_cons_zero, List.set_cons_succ, i64_w, i32_w]
                    rfl
                  refine pure_ (i := 6) (N := some 29) (v := ?_) (a' := ?_) #[true, true, true, true, true, true, true, false] rfl rfl (any_of HT_.out (by kernel_rfl)) (fun _ _ _ h => h) (Or.inl ⟨by rfl, ?_⟩) ?_ ?_
                  rotate_left
                  · intro w'
                    go_simp
                    with_reducible rfl
                  rotate_left
                  · simp only [Act.put, List.setIfInBounds_toArray, List.set_cons_zero, List.set_cons_succ, i64_w, i32_w]
                    rfl
                  refine pure_ (i := 7) (N := some 5) (v := ?_) (a' := ?_) #[true, true, true, true, true, true, true, true] rfl rfl (any_of HT_.out (by kernel_rfl)) (fun _ _ _ h => h) (Or.inl ⟨by rfl, ?_⟩) ?_ ?_
                  rotate_left
                  · intro w'
                    go_simp
                    with_reducible rfl
                  rotate_left
                  · simp only [Act.put, List.setIfInBounds_toArray, List.set_cons_zero, List.set_cons_succ, i64_w, i32_w]
                    rfl
                  refine done_ (done_of HT_.out (by kernel_rfl)) ?_
                  have hcz120_0 : w119.cell? ⟨gb188, 0, none⟩ = some (.int .i64 t181) := (blk_cell BK188.out 0).trans rfl
                  have hcz120_1 : w119.cell? ⟨gb188, 1, none⟩ = some (.int .i64 t182) := (blk_cell BK188.out 1).trans rfl
                  have hcz120_2 : w119.cell? ⟨gb188, 2, none⟩ = some (.int .u32 t183) := (blk_cell BK188.out 2).trans rfl
                  have hcz120_3 : w119.cell? ⟨gb188, 3, none⟩ = some (.int .i64 t184) := (blk_cell BK188.out 3).trans rfl
                  have hcz120_4 : w119.cell? ⟨gb188, 4, none⟩ = some (.int .i64 t185) := (blk_cell BK188.out 4).trans rfl
                  have hcz120_5 : w119.cell? ⟨gb188, 5, none⟩ = some (.int .i64 t186) := (blk_cell BK188.out 5).trans rfl
                  have hcz120_6 : w119.cell? ⟨gb188, 6, none⟩ = some (.int .i64 t187) := (blk_cell BK188.out 6).trans rfl
                  have hfz120_0 := blk_frozen BK188.out 0
                  have hfz120_1 := blk_frozen BK188.out 1
                  have hfz120_2 := blk_frozen BK188.out 2
                  have hfz120_3 := blk_frozen BK188.out 3
                  have hfz120_4 := blk_frozen BK188.out 4
                  have hfz120_5 := blk_frozen BK188.out 5
                  have hfz120_6 := blk_frozen BK188.out 6
                  try go_wp2_with (first | ((with_reducible refine gate_callee (f := 31) rfl ?_); refine goesL_ (some 32) rfl rfl Try.func31 (by kernel_rfl) rfl #[.agg #[.int .i64 t181, .int .i64 t182, .int .u32 t183, .int .i64 t184, .int .i64 t185, .int .i64 t186, .int .i64 t187], .int .u32 x4_2] rfl (by (try simp only [List.map_toArray, List.map_cons, List.map_nil]); first | done | rfl | (simp only [List.length_drop, List.length_take]; rfl)) ?_; (with_reducible refine (grid_Config_IsFirst.calls k2 t181 t182 t183 t184 t185 t186 t187 x4_2 false _ A28.out).mono ?_); rintro e w121 ⟨rfl, hb⟩; refine ⟨_, rfl, ?_⟩; have n0_ := Aside0.mk (blk_below (g := gb173) (o := .cells #[.int .i64 a0_0, .int .i64 a0_1, .int .u32 a0_2, .int .i64 a0_3, .int .i64 a0_4, .int .i64 a0_5, .int .i64 a0_6] 52 (0, 0)) (by (with_reducible repeat (first | refine blk_drewN ?_ _ | refine blk_drew ?_ | refine blk_alloc ?_ _)); exact BK173.out) hb); have n1_ := Aside0.mk (blk_below (g := gb188) (o := .cells #[.int .i64 t181, .int .i64 t182, .int .u32 t183, .int .i64 t184, .int .i64 t185, .int .i64 t186, .int .i64 t187] 56 (0, 0)) (by (with_reducible repeat (first | refine blk_drewN ?_ _ | refine blk_drew ?_ | refine blk_alloc ?_ _)); exact BK188.out) hb); have n2_ := Aside0.mk (below_step (by repeat (first | (with_reducible first | exact HB.out | apply below_alloc | apply pw_below_drewN | apply below_drew1 | refine below_set ?_ GE173.out | refine below_set ?_ GE188.out) | exact HB.out)) hb); clear BK173; clear BK188; clear HB; have BK173 := n0_; have BK188 := n1_; have HB := n2_; clear n0_ n1_ n2_; (try clear hb); (try clear hb2); (try clear hk); (try clear hi); have hcz122_0 : w121.cell? ⟨gb188, 0, none⟩ = some (.int .i64 t181) := (blk_cell BK188.out 0).trans rfl; have hcz122_1 : w121.cell? ⟨gb188, 1, none⟩ = some (.int .i64 t182) := (blk_cell BK188.out 1).trans rfl; have hcz122_2 : w121.cell? ⟨gb188, 2, none⟩ = some (.int .u32 t183) := (blk_cell BK188.out 2).trans rfl; have hcz122_3 : w121.cell? ⟨gb188, 3, none⟩ = some (.int .i64 t184) := (blk_cell BK188.out 3).trans rfl; have hcz122_4 : w121.cell? ⟨gb188, 4, none⟩ = some (.int .i64 t185) := (blk_cell BK188.out 4).trans rfl; have hcz122_5 : w121.cell? ⟨gb188, 5, none⟩ = some (.int .i64 t186) := (blk_cell BK188.out 5).trans rfl; have hcz122_6 : w121.cell? ⟨gb188, 6, none⟩ = some (.int .i64 t187) := (blk_cell BK188.out 6).trans rfl; have hfz122_0 := blk_frozen BK188.out 0; have hfz122_1 := blk_frozen BK188.out 1; have hfz122_2 := blk_frozen BK188.out 2; have hfz122_3 := blk_frozen BK188.out 3; have hfz122_4 := blk_frozen BK188.out 4; have hfz122_5 := blk_frozen BK188.out 5; have hfz122_6 := blk_frozen BK188.out 6) | (go_at_call 33; (with_reducible refine (grid_Config_IsSecond.calls k2 t181 t182 t183 t184 t185 t186 t187 x4_2 false _ A86.out).mono ?_); rintro e w123 ⟨rfl, hb⟩; have n0_ := Aside0.mk (blk_below (g := gb173) (o := .cells #[.int .i64 a0_0, .int .i64 a0_1, .int .u32 a0_2, .int .i64 a0_3, .int .i64 a0_4, .int .i64 a0_5, .int .i64 a0_6] 52 (0, 0)) (by (with_reducible repeat (first | refine blk_drewN ?_ _ | refine blk_drew ?_ | refine blk_alloc ?_ _)); exact BK173.out) hb); have n1_ := Aside0.mk (blk_below (g := gb188) (o := .cells #[.int .i64 t181, .int .i64 t182, .int .u32 t183, .int .i64 t184, .int .i64 t185, .int .i64 t186, .int .i64 t187] 56 (0, 0)) (by (with_reducible repeat (first | refine blk_drewN ?_ _ | refine blk_drew ?_ | refine blk_alloc ?_ _)); exact BK188.out) hb); have n2_ := Aside0.mk (below_step (by repeat (first | (with_reducible first | exact HB.out | apply below_alloc | apply pw_below_drewN | apply below_drew1 | refine below_set ?_ GE173.out | refine below_set ?_ GE188.out) | exact HB.out)) hb); clear BK173; clear BK188; clear HB; have BK173 := n0_; have BK188 := n1_; have HB := n2_; clear n0_ n1_ n2_; (try clear hb); (try clear hb2); (try clear hk); (try clear hi)))
                  go_roundg k2
                  case measure => have := HJ3.out; have := HK2.out; omega
                  case rel => exact ⟨((x4_2 + 1) % 4294967296), (by first | rfl | (simp; done) | (simp [*]; done)), H', ⟨by have := HJ3.out; have := HK2.out; omega⟩, ⟨by (with_reducible repeat (first | refine blk_drewN ?_ _ | refine blk_drew ?_ | refine blk_alloc ?_ _)); exact BK173.out⟩, ⟨by (with_reducible repeat (first | refine blk_drewN ?_ _ | refine blk_drew ?_ | refine blk_alloc ?_ _)); exact BK188.out⟩, ⟨by repeat (first | (with_reducible first | exact HB.out | apply below_alloc | apply pw_below_drewN | apply below_drew1 | refine below_set ?_ GE173.out | refine below_set ?_ GE188.out) | exact HB.out)⟩⟩
            · rw [if_neg c25] at H
              have c25b0 : decide (x4_2 ≤ t191) = false := decide_eq_false c25
              clear c25
              obtain rfl := Option.some.inj H
              have hnb124 := NB188_173.out
              have hnc124 := NB173_188.out
              have hcz125_0 : wr.cell? ⟨gb188, 0, none⟩ = some (.int .i64 t181) := (blk_cell BK188.out 0).trans rfl
              have hcz125_1 : wr.cell? ⟨gb188, 1, none⟩ = some (.int .i64 t182) := (blk_cell BK188.out 1).trans rfl
              have hcz125_2 : wr.cell? ⟨gb188, 2, none⟩ = some (.int .u32 t183) := (blk_cell BK188.out 2).trans rfl
              have hcz125_3 : wr.cell? ⟨gb188, 3, none⟩ = some (.int .i64 t184) := (blk_cell BK188.out 3).trans rfl
              have hcz125_4 : wr.cell? ⟨gb188, 4, none⟩ = some (.int .i64 t185) := (blk_cell BK188.out 4).trans rfl
              have hcz125_5 : wr.cell? ⟨gb188, 5, none⟩ = some (.int .i64 t186) := (blk_cell BK188.out 5).trans rfl
              have hcz125_6 : wr.cell? ⟨gb188, 6, none⟩ = some (.int .i64 t187) := (blk_cell BK188.out 6).trans rfl
              have hfz125_0 := blk_frozen BK188.out 0
              have hfz125_1 := blk_frozen BK188.out 1
              have hfz125_2 := blk_frozen BK188.out 2
              have hfz125_3 := blk_frozen BK188.out 3
              have hfz125_4 := blk_frozen BK188.out 4
              have hfz125_5 := blk_frozen BK188.out 5
              have hfz125_6 := blk_frozen BK188.out 6
              go_wp2_with (first | ((with_reducible refine gate_callee (f := 34) rfl ?_); refine goesL_ (some 19) rfl rfl Try.func34 (by kernel_rfl) rfl #[.agg #[.int .i64 t181, .int .i64 t182, .int .u32 t183, .int .i64 t184, .int .i64 t185, .int .i64 t186, .int .i64 t187]] rfl (by (try simp only [List.map_toArray, List.map_cons, List.map_nil]); first | done | rfl | (simp only [List.length_drop, List.length_take]; rfl)) ?_; (with_reducible refine (grid_Config_All.calls k2 t181 t182 t183 t184 t185 t186 t187 t191 _ A24.out).mono ?_); rintro e w126 ⟨rfl, hb⟩; refine ⟨_, rfl, ?_⟩; have n0_ := Aside0.mk (blk_below (g := gb173) (o := .cells #[.int .i64 a0_0, .int .i64 a0_1, .int .u32 a0_2, .int .i64 a0_3, .int .i64 a0_4, .int .i64 a0_5, .int .i64 a0_6] 52 (0, 0)) (by (with_reducible repeat (first | refine blk_drewN ?_ _ | refine blk_drew ?_ | refine blk_alloc ?_ _)); exact BK173.out) hb); have n1_ := Aside0.mk (blk_below (g := gb188) (o := .cells #[.int .i64 t181, .int .i64 t182, .int .u32 t183, .int .i64 t184, .int .i64 t185, .int .i64 t186, .int .i64 t187] 56 (0, 0)) (by (with_reducible repeat (first | refine blk_drewN ?_ _ | refine blk_drew ?_ | refine blk_alloc ?_ _)); exact BK188.out) hb); have n2_ := Aside0.mk (below_step (by repeat (first | (with_reducible first | exact HB.out | apply below_alloc | apply pw_below_drewN | apply below_drew1 | refine below_set ?_ GE173.out | refine below_set ?_ GE188.out) | exact HB.out)) hb); clear BK173; clear BK188; clear HB; have BK173 := n0_; have BK188 := n1_; have HB := n2_; clear n0_ n1_ n2_; (try clear hb); (try clear hb2); (try clear hk); (try clear hi)))
              go_ret
              exact ⟨by first | rfl | (simp [errW_none, errW_some] <;> rfl) | (simp [*, errW_none, errW_some] <;> rfl), by repeat (first | (with_reducible first | exact HB.out | apply below_alloc | apply pw_below_drewN | apply below_drew1 | refine below_set ?_ GE173.out | refine below_set ?_ GE188.out) | exact HB.out)⟩

end Go.Proofs.Ytbldphmnpangiaa.PChatelaineMeet
