-- written by a program of this session (wip/gen/print2.sh)
import Derived.Test.YtllagimocmdldaaPBallotOrderx0
import Derived.Test.YtllagimocmdldaaPBallotOrderx1
import Derived.Test.YtllagimocmdldaaPBallotOrderx2
import Derived.Test.YtllagimocmdldaaPBallotOrderx3
import Derived.Test.YtllagimocmdldaaPBallotOrderx4
import Derived.Test.YtllagimocmdldaaPBallotOrderx5
namespace Go.Proofs.Ytllagimocmdldaa.PBallotOrder
open Go.RowKit Go.Proofs.YtllagimocmdldaaW.PrintWords Go.Proofs.YtllagimocmdldaaW.PrintLast Go.Proofs.YtllagimocmdldaaW.PrintMore
attribute [local go_sem] max2_int min2_int max_two min_two max_three min_three max_four min_four   -- for this text's walks alone
set_option linter.unusedVariables false
set_option linter.unusedSimpArgs false

attribute [local go_sem high] eqA56 eqA58
@[reducible] def qm0 : Array Bool := #[false, false, false, false, false, false, false, false, false]
@[reducible] def qm1 : Array Bool := #[true, false, false, false, false, false, false, false, false]
@[reducible] def qm4 : Array Bool := #[true, true, true, false, true, false, false, false, false]
@[reducible] def qm5 : Array Bool := #[true, true, true, true, true, false, false, false, false]
@[reducible] def qm6 : Array Bool := #[true, true, true, true, true, true, false, false, false]
@[reducible] def qm7 : Array Bool := #[true, true, true, true, true, true, true, false, false]
@[reducible] def qm8 : Array Bool := #[true, true, true, true, true, true, true, true, false]
@[reducible] def qm9 : Array Bool := #[true, true, true, true, true, true, true, true, true]
@[reducible] def qm12 : Array Bool := #[true, true, true, true, false, true, false, false, false]
@[reducible] def qm13 : Array Bool := #[true, true, true, false, true, true, false, false, false]
@[reducible] def qm14 : Array Bool := #[true, true, true, true, false, false, false, false, false]
@[reducible] def qm15 : Array Bool := #[true, true, true, false, false, true, false, false, false]
theorem e1_ {α : Type _} (l : List α) (i : Nat) (a : α) : l.toArray.setIfInBounds i a = (l.set i a).toArray := List.setIfInBounds_toArray l i a
theorem e2_ {α : Type _} (x : α) (l : List α) (a : α) : (x :: l).set 0 a = a :: l := rfl
theorem e3_ {α : Type _} (x : α) (l : List α) (n : Nat) (a : α) : (x :: l).set (n + 1) a = x :: l.set n a := rfl
theorem K_ {p : Prop} (h : p) : Aside0 p := Aside0.mk h
theorem bA_ {w : World} {g : Nat} {o : Obj} (h : w.heap[g]? = some o) (o' : Obj) : (w.alloc o').heap[g]? = some o := blk_alloc h o'
theorem bD_ {w : World} {g : Nat} {o : Obj} (h : w.heap[g]? = some o) : w.drew.heap[g]? = some o := h
theorem bN_ {w : World} {g : Nat} {o : Obj} (h : w.heap[g]? = some o) (n : Nat) : (w.drewN n).heap[g]? = some o := h
theorem pA_ {w W : World} (h : Below w.heap.size w W) (o : Obj) : Below w.heap.size w (W.alloc o) := below_alloc h o
theorem pN_ {B : Nat} {w W : World} (h : Below B w W) (n : Nat) : Below B w (W.drewN n) := pw_below_drewN h n
theorem pD_ {base : Nat} {w W : World} (h : Below base w W) : Below base w W.drew := below_drew1 h
theorem bS_ {w W : World} {g j : Nat} {v : Value} (h : Below w.heap.size w W) (hg : w.heap.size ≤ g) : Below w.heap.size w (W.setCell ⟨g, j, none⟩ v) := below_set h hg
set_option maxHeartbeats 8000000 in
set_option maxRecDepth 100000 in
theorem chatelainelaw08_BallotOrder.calls (k : Nat) (a0_0 : Int) (a0_1 : Int) (a1_0 : Int) (a1_1 : Int) (a2_0 : Int) (a2_1 : Int) (r : Bool) (w : World) (h : chatelainelaw08_BallotOrder.f k a0_0 a0_1 a1_0 a1_1 a2_0 a2_1 = some r) (hr_ : r = true) :
  Calls Try.prog 12 #[.agg #[.int .u64 a0_0, .int .i64 a0_1], .agg #[.int .u64 a1_0, .int .i64 a1_1], .agg #[.int .u64 a2_0, .int .i64 a2_1]] w fun e w' => e = .returned (.bool r) ∧ Below w.heap.size w w' := by
 have hu56:=Try.underlying56
 have hu58:=Try.underlying58
 have HB:=K_ (Below.refl w.heap.size w)
 have H : ((chatelainelaw08_awake.f k).bind fun t137 => (if t137 = true then ((chatelainelaw08_Right.f a0_0 a0_1).bind fun bt138 => ((chatelainelaw08_Right.f a1_0 a1_1).bind fun bt140 => ((chatelainelaw08_Right.f a2_0 a2_1).bind fun bt142 => ((ballot_Compare.f k bt138.1 bt138.2 bt140.1 bt140.2).bind fun t147 => ((chatelaineref08_Above.f bt138.1 bt138.2 bt140.1 bt140.2).bind fun t148 => (if ((decide (t147 > 0)) != t148) = true then (j0 k true bt138.1 bt138.2 bt140.1 bt140.2 bt142.1 bt142.2) else ((chatelaineref08_Above.f bt140.1 bt140.2 bt138.1 bt138.2).bind fun t149 => (if ((decide (t147 < 0)) != t149) = true then (j0 k true bt138.1 bt138.2 bt140.1 bt140.2 bt142.1 bt142.2) else (if t147 < (-1) then (j0 k true bt138.1 bt138.2 bt140.1 bt140.2 bt142.1 bt142.2) else (if t147 > 1 then (j0 k true bt138.1 bt138.2 bt140.1 bt140.2 bt142.1 bt142.2) else ((ballot_Ballot_None.f bt138.1 bt138.2).bind fun t150 => (j0 k (t150 != (bt138.1 == 0 && (bt138.2 == 0))) bt138.1 bt138.2 bt140.1 bt140.2 bt142.1 bt142.2)))))))))))) else (some false))) = some r := h
 clear h
 replace H := Option.bind_eq_some_iff.mp H
 obtain ⟨t137, A40, H⟩ := H
 replace H : (if t137 = true then ((chatelainelaw08_Right.f a0_0 a0_1).bind fun bt138 => ((chatelainelaw08_Right.f a1_0 a1_1).bind fun bt140 => ((chatelainelaw08_Right.f a2_0 a2_1).bind fun bt142 => ((ballot_Compare.f k bt138.1 bt138.2 bt140.1 bt140.2).bind fun t147 => ((chatelaineref08_Above.f bt138.1 bt138.2 bt140.1 bt140.2).bind fun t148 => (if ((decide (t147 > 0)) != t148) = true then (j0 k true bt138.1 bt138.2 bt140.1 bt140.2 bt142.1 bt142.2) else ((chatelaineref08_Above.f bt140.1 bt140.2 bt138.1 bt138.2).bind fun t149 => (if ((decide (t147 < 0)) != t149) = true then (j0 k true bt138.1 bt138.2 bt140.1 bt140.2 bt142.1 bt142.2) else (if t147 < (-1) then (j0 k true bt138.1 bt138.2 bt140.1 bt140.2 bt142.1 bt142.2) else (if t147 > 1 then (j0 k true bt138.1 bt138.2 bt140.1 bt140.2 bt142.1 bt142.2) else ((ballot_Ballot_None.f bt138.1 bt138.2).bind fun t150 => (j0 k (t150 != (bt138.1 == 0 && (bt138.2 == 0))) bt138.1 bt138.2 bt140.1 bt140.2 bt142.1 bt142.2)))))))))))) else (some false)) = some r := H
 have A4:=K_ A40
 clear A40
 by_cases c5 : t137 = true
 ·
  subst c5
  have H1 : ((chatelainelaw08_Right.f a0_0 a0_1).bind fun bt138 => ((chatelainelaw08_Right.f a1_0 a1_1).bind fun bt140 => ((chatelainelaw08_Right.f a2_0 a2_1).bind fun bt142 => ((ballot_Compare.f k bt138.1 bt138.2 bt140.1 bt140.2).bind fun t147 => ((chatelaineref08_Above.f bt138.1 bt138.2 bt140.1 bt140.2).bind fun t148 => (if ((decide (t147 > 0)) != t148) = true then (j0 k true bt138.1 bt138.2 bt140.1 bt140.2 bt142.1 bt142.2) else ((chatelaineref08_Above.f bt140.1 bt140.2 bt138.1 bt138.2).bind fun t149 => (if ((decide (t147 < 0)) != t149) = true then (j0 k true bt138.1 bt138.2 bt140.1 bt140.2 bt142.1 bt142.2) else (if t147 < (-1) then (j0 k true bt138.1 bt138.2 bt140.1 bt140.2 bt142.1 bt142.2) else (if t147 > 1 then (j0 k true bt138.1 bt138.2 bt140.1 bt140.2 bt142.1 bt142.2) else ((ballot_Ballot_None.f bt138.1 bt138.2).bind fun t150 => (j0 k (t150 != (bt138.1 == 0 && (bt138.2 == 0))) bt138.1 bt138.2 bt140.1 bt140.2 bt142.1 bt142.2)))))))))))) = some r := by rw [if_pos rfl] at H; exact H
  clear H
  have H:=H1
  clear H1
  replace H := Option.bind_eq_some_iff.mp H
  obtain ⟨⟨t138, t139⟩, A60, H⟩ := H
  replace H : ((chatelainelaw08_Right.f a1_0 a1_1).bind fun bt140 => ((chatelainelaw08_Right.f a2_0 a2_1).bind fun bt142 => ((ballot_Compare.f k t138 t139 bt140.1 bt140.2).bind fun t147 => ((chatelaineref08_Above.f t138 t139 bt140.1 bt140.2).bind fun t148 => (if ((decide (t147 > 0)) != t148) = true then (j0 k true t138 t139 bt140.1 bt140.2 bt142.1 bt142.2) else ((chatelaineref08_Above.f bt140.1 bt140.2 t138 t139).bind fun t149 => (if ((decide (t147 < 0)) != t149) = true then (j0 k true t138 t139 bt140.1 bt140.2 bt142.1 bt142.2) else (if t147 < (-1) then (j0 k true t138 t139 bt140.1 bt140.2 bt142.1 bt142.2) else (if t147 > 1 then (j0 k true t138 t139 bt140.1 bt140.2 bt142.1 bt142.2) else ((ballot_Ballot_None.f t138 t139).bind fun t150 => (j0 k (t150 != (t138 == 0 && (t139 == 0))) t138 t139 bt140.1 bt140.2 bt142.1 bt142.2))))))))))) = some r := H
  have A6:=K_ A60
  clear A60
  replace H := Option.bind_eq_some_iff.mp H
  obtain ⟨⟨t140, t141⟩, A70, H⟩ := H
  replace H : ((chatelainelaw08_Right.f a2_0 a2_1).bind fun bt142 => ((ballot_Compare.f k t138 t139 t140 t141).bind fun t147 => ((chatelaineref08_Above.f t138 t139 t140 t141).bind fun t148 => (if ((decide (t147 > 0)) != t148) = true then (j0 k true t138 t139 t140 t141 bt142.1 bt142.2) else ((chatelaineref08_Above.f t140 t141 t138 t139).bind fun t149 => (if ((decide (t147 < 0)) != t149) = true then (j0 k true t138 t139 t140 t141 bt142.1 bt142.2) else (if t147 < (-1) then (j0 k true t138 t139 t140 t141 bt142.1 bt142.2) else (if t147 > 1 then (j0 k true t138 t139 t140 t141 bt142.1 bt142.2) else ((ballot_Ballot_None.f t138 t139).bind fun t150 => (j0 k (t150 != (t138 == 0 && (t139 == 0))) t138 t139 t140 t141 bt142.1 bt142.2)))))))))) = some r := H
  have A7:=K_ A70
  clear A70
  replace H := Option.bind_eq_some_iff.mp H
  obtain ⟨⟨t142, t143⟩, A80, H⟩ := H
  replace H : ((ballot_Compare.f k t138 t139 t140 t141).bind fun t147 => ((chatelaineref08_Above.f t138 t139 t140 t141).bind fun t148 => (if ((decide (t147 > 0)) != t148) = true then (j0 k true t138 t139 t140 t141 t142 t143) else ((chatelaineref08_Above.f t140 t141 t138 t139).bind fun t149 => (if ((decide (t147 < 0)) != t149) = true then (j0 k true t138 t139 t140 t141 t142 t143) else (if t147 < (-1) then (j0 k true t138 t139 t140 t141 t142 t143) else (if t147 > 1 then (j0 k true t138 t139 t140 t141 t142 t143) else ((ballot_Ballot_None.f t138 t139).bind fun t150 => (j0 k (t150 != (t138 == 0 && (t139 == 0))) t138 t139 t140 t141 t142 t143))))))))) = some r := H
  have A8:=K_ A80
  clear A80
  replace H := Option.bind_eq_some_iff.mp H
  obtain ⟨t147, A90, H⟩ := H
  replace H : ((chatelaineref08_Above.f t138 t139 t140 t141).bind fun t148 => (if ((decide (t147 > 0)) != t148) = true then (j0 k true t138 t139 t140 t141 t142 t143) else ((chatelaineref08_Above.f t140 t141 t138 t139).bind fun t149 => (if ((decide (t147 < 0)) != t149) = true then (j0 k true t138 t139 t140 t141 t142 t143) else (if t147 < (-1) then (j0 k true t138 t139 t140 t141 t142 t143) else (if t147 > 1 then (j0 k true t138 t139 t140 t141 t142 t143) else ((ballot_Ballot_None.f t138 t139).bind fun t150 => (j0 k (t150 != (t138 == 0 && (t139 == 0))) t138 t139 t140 t141 t142 t143)))))))) = some r := H
  have A9:=K_ A90
  clear A90
  have HC10:=K_ H
  clear H
  go_enter Try.func12, Try.ntmps12
  try go_wp2_with (first|((with_reducible refine gate_dst (N := 3) rfl ?_); refine box_event ?hg (N := 3) ?hd (cs := #[.int .u64 a0_0, .int .i64 a0_1]) (t := 56) ?hr ?_; (case hd => rfl); (case hg => rfl); (case hr => first|(go_simp; done)|(go_simp; rfl)); intro gb134 hg w11 hbox hb; have n0_:=K_ (below_step (by repeat (first|(with_reducible first|exact HB.out|apply pA_|apply pN_|apply pD_)|exact HB.out)) hb); have n1_:=K_ (hbox); have n2_:=K_ ((by rw [hg]; exact (below_size (by repeat (first|(with_reducible first|exact HB.out|apply pA_|apply pN_|apply pD_)|exact HB.out))) : w.heap.size ≤ gb134)); have n3_:=K_ ((by rw [hg]; exact (below_size (by repeat (first|(with_reducible first|exact HB.out|apply pA_|apply pN_|apply pD_)|exact HB.out))) : w.heap.size ≤ gb134)); clear HB; have HB:=n0_; have BK134:=n1_; have GW134:=n2_; have GE134:=n3_; clear n0_ n1_ n2_ n3_; clear hb hbox hg)|((with_reducible refine gate_dst (N := 4) rfl ?_); refine box_event ?hg (N := 4) ?hd (cs := #[.int .u64 a1_0, .int .i64 a1_1]) (t := 56) ?hr ?_; (case hd => rfl); (case hg => rfl); (case hr => first|(go_simp; done)|(go_simp; rfl)); intro gb135 hg w12 hbox hb; have n0_:=K_ (blk_below (g := gb134) (o := .cells #[.int .u64 a0_0, .int .i64 a0_1] 56 (0, 0)) (by (with_reducible repeat (first|refine bN_ ?_ _|refine bD_ ?_|refine bA_ ?_ _)); exact BK134.out) hb); have n1_:=K_ (below_step (by repeat (first|(with_reducible first|exact HB.out|apply pA_|apply pN_|apply pD_|refine bS_ ?_ GE134.out)|exact HB.out)) hb); have n2_:=K_ (hbox); have n3_:=K_ ((by rw [hg]; exact (below_size (by repeat (first|(with_reducible first|exact HB.out|apply pA_|apply pN_|apply pD_|refine bS_ ?_ GE134.out)|exact HB.out))) : w.heap.size ≤ gb135)); have n4_:=K_ ((by rw [hg]; exact (below_size (by repeat (first|(with_reducible first|exact HB.out|apply pA_|apply pN_|apply pD_|refine bS_ ?_ GE134.out)|exact HB.out))) : w.heap.size ≤ gb135)); have n5_:=K_ ((by rw [hg]; exact Nat.ne_of_lt (blk_lt (g := gb134) (o := .cells #[.int .u64 a0_0, .int .i64 a0_1] 56 (0, 0)) (by (with_reducible repeat (first|refine bN_ ?_ _|refine bD_ ?_|refine bA_ ?_ _)); exact BK134.out)) : gb134 ≠ gb135)); have n6_:=K_ ((by rw [hg]; exact Nat.ne_of_gt (blk_lt (g := gb134) (o := .cells #[.int .u64 a0_0, .int .i64 a0_1] 56 (0, 0)) (by (with_reducible repeat (first|refine bN_ ?_ _|refine bD_ ?_|refine bA_ ?_ _)); exact BK134.out)) : gb135 ≠ gb134)); clear BK134; clear HB; have BK134:=n0_; have HB:=n1_; have BK135:=n2_; have GW135:=n3_; have GE135:=n4_; have NB134_135:=n5_; have NB135_134:=n6_; clear n0_ n1_ n2_ n3_ n4_ n5_ n6_; clear hb hbox hg)|((with_reducible refine gate_dst (N := 5) rfl ?_); refine box_event ?hg (N := 5) ?hd (cs := #[.int .u64 a2_0, .int .i64 a2_1]) (t := 56) ?hr ?_; (case hd => rfl); (case hg => rfl); (case hr => first|(go_simp; done)|(go_simp; rfl)); intro gb136 hg w13 hbox hb; have n0_:=K_ (blk_below (g := gb134) (o := .cells #[.int .u64 a0_0, .int .i64 a0_1] 56 (0, 0)) (by (with_reducible repeat (first|refine bN_ ?_ _|refine bD_ ?_|refine bA_ ?_ _)); exact BK134.out) hb); have n1_:=K_ (blk_below (g := gb135) (o := .cells #[.int .u64 a1_0, .int .i64 a1_1] 56 (0, 0)) (by (with_reducible repeat (first|refine bN_ ?_ _|refine bD_ ?_|refine bA_ ?_ _)); exact BK135.out) hb); have n2_:=K_ (below_step (by repeat (first|(with_reducible first|exact HB.out|apply pA_|apply pN_|apply pD_|refine bS_ ?_ GE134.out|refine bS_ ?_ GE135.out)|exact HB.out)) hb); have n3_:=K_ (hbox); have n4_:=K_ ((by rw [hg]; exact (below_size (by repeat (first|(with_reducible first|exact HB.out|apply pA_|apply pN_|apply pD_|refine bS_ ?_ GE134.out|refine bS_ ?_ GE135.out)|exact HB.out))) : w.heap.size ≤ gb136)); have n5_:=K_ ((by rw [hg]; exact (below_size (by repeat (first|(with_reducible first|exact HB.out|apply pA_|apply pN_|apply pD_|refine bS_ ?_ GE134.out|refine bS_ ?_ GE135.out)|exact HB.out))) : w.heap.size ≤ gb136)); have n6_:=K_ ((by rw [hg]; exact Nat.ne_of_lt (blk_lt (g := gb134) (o := .cells #[.int .u64 a0_0, .int .i64 a0_1] 56 (0, 0)) (by (with_reducible repeat (first|refine bN_ ?_ _|refine bD_ ?_|refine bA_ ?_ _)); exact BK134.out)) : gb134 ≠ gb136)); have n7_:=K_ ((by rw [hg]; exact Nat.ne_of_gt (blk_lt (g := gb134) (o := .cells #[.int .u64 a0_0, .int .i64 a0_1] 56 (0, 0)) (by (with_reducible repeat (first|refine bN_ ?_ _|refine bD_ ?_|refine bA_ ?_ _)); exact BK134.out)) : gb136 ≠ gb134)); have n8_:=K_ ((by rw [hg]; exact Nat.ne_of_lt (blk_lt (g := gb135) (o := .cells #[.int .u64 a1_0, .int .i64 a1_1] 56 (0, 0)) (by (with_reducible repeat (first|refine bN_ ?_ _|refine bD_ ?_|refine bA_ ?_ _)); exact BK135.out)) : gb135 ≠ gb136)); have n9_:=K_ ((by rw [hg]; exact Nat.ne_of_gt (blk_lt (g := gb135) (o := .cells #[.int .u64 a1_0, .int .i64 a1_1] 56 (0, 0)) (by (with_reducible repeat (first|refine bN_ ?_ _|refine bD_ ?_|refine bA_ ?_ _)); exact BK135.out)) : gb136 ≠ gb135)); clear BK134; clear BK135; clear HB; have BK134:=n0_; have BK135:=n1_; have HB:=n2_; have BK136:=n3_; have GW136:=n4_; have GE136:=n5_; have NB134_136:=n6_; have NB136_134:=n7_; have NB135_136:=n8_; have NB136_135:=n9_; clear n0_ n1_ n2_ n3_ n4_ n5_ n6_ n7_ n8_ n9_; clear hb hbox hg)|((with_reducible refine gate_callee (f := 36) rfl ?_); refine goesL_ (some 12) rfl rfl Try.func36 (by kernel_rfl) rfl #[] rfl (by (try simp only [List.map_toArray, List.map_cons, List.map_nil]); first|done|rfl|(simp only [List.length_drop, List.length_take]; rfl)) ?_; (with_reducible refine (chatelainelaw08_awake.calls k  true _ A4.out).mono ?_); rintro e w14 ⟨rfl, hb⟩; refine ⟨_, rfl, ?_⟩; have n0_:=K_ (blk_below (g := gb134) (o := .cells #[.int .u64 a0_0, .int .i64 a0_1] 56 (0, 0)) (by (with_reducible repeat (first|refine bN_ ?_ _|refine bD_ ?_|refine bA_ ?_ _)); exact BK134.out) hb); have n1_:=K_ (blk_below (g := gb135) (o := .cells #[.int .u64 a1_0, .int .i64 a1_1] 56 (0, 0)) (by (with_reducible repeat (first|refine bN_ ?_ _|refine bD_ ?_|refine bA_ ?_ _)); exact BK135.out) hb); have n2_:=K_ (blk_below (g := gb136) (o := .cells #[.int .u64 a2_0, .int .i64 a2_1] 56 (0, 0)) (by (with_reducible repeat (first|refine bN_ ?_ _|refine bD_ ?_|refine bA_ ?_ _)); exact BK136.out) hb); have n3_:=K_ (below_step (by repeat (first|(with_reducible first|exact HB.out|apply pA_|apply pN_|apply pD_|refine bS_ ?_ GE134.out|refine bS_ ?_ GE135.out|refine bS_ ?_ GE136.out)|exact HB.out)) hb); clear BK134; clear BK135; clear BK136; clear HB; have BK134:=n0_; have BK135:=n1_; have BK136:=n2_; have HB:=n3_; clear n0_ n1_ n2_ n3_; (try clear hb); (try clear hb2); (try clear hk); (try clear hi)))
  have n0_:=K_ (bD_ BK134.out)
  have n1_:=K_ (bD_ BK135.out)
  have n2_:=K_ (bD_ BK136.out)
  have n3_:=K_ (pD_ HB.out)
  clear BK134
  clear BK135
  clear BK136
  clear HB
  have BK134:=n0_
  have BK135:=n1_
  have BK136:=n2_
  have HB:=n3_
  clear n0_ n1_ n2_ n3_
  refine start_ (n := 9) (S := fun w' => w'.cell? ⟨gb134, 0, none⟩ = some (.int .u64 a0_0) ∧ w'.cell? ⟨gb134, 1, none⟩ = some (.int .i64 a0_1) ∧ w'.cell? ⟨gb135, 0, none⟩ = some (.int .u64 a1_0) ∧ w'.cell? ⟨gb135, 1, none⟩ = some (.int .i64 a1_1) ∧ w'.cell? ⟨gb136, 0, none⟩ = some (.int .u64 a2_0) ∧ w'.cell? ⟨gb136, 1, none⟩ = some (.int .i64 a2_1)) (ds := [6, 7, 8]) qm0 (by kernel_rfl) rfl rfl ⟨(blk_cell BK134.out 0).trans rfl, (blk_cell BK134.out 1).trans rfl, (blk_cell BK135.out 0).trans rfl, (blk_cell BK135.out 1).trans rfl, (blk_cell BK136.out 0).trans rfl, (blk_cell BK136.out 1).trans rfl⟩ (fun hHeld => ?_); refine with_tabW chatelainelaw08_BallotOrder.tab3 chatelainelaw08_BallotOrder.bits3 (fun HT_ HW_ => ?_)
  generalize w14.drew = w15 at BK134 BK135 BK136 HB hHeld ⊢
  refine take_ (i := 0) (N := some 14) (v := ?_) (a' := ?_) qm1 rfl rfl (take_ofW HT_.out HW_.out (by kernel_rfl)) (fun _ _ _ h => h) (Or.inl ⟨by rfl, ?_⟩) hHeld ?_ ?_
  rotate_left
  ·
   rintro w' ⟨s0, s1, s2, s3, s4, s5⟩
   go_simp
   with_reducible rfl
  rotate_left
  ·
   simp only [Act.put, e1_, e2_, e3_, i64_w, i32_w]
   rfl
  refine take_ (i := 2) (N := some 16) (v := ?_) (a' := ?_) #[true, false, true, false, false, false, false, false, false] rfl rfl (take_ofW HT_.out HW_.out (by kernel_rfl)) (fun _ _ _ h => h) (Or.inl ⟨by rfl, ?_⟩) hHeld ?_ ?_
  rotate_left
  ·
   rintro w' ⟨s0, s1, s2, s3, s4, s5⟩
   go_simp
   with_reducible rfl
  rotate_left
  ·
   simp only [Act.put, e1_, e2_, e3_, i64_w, i32_w]
   rfl
  refine take_ (i := 4) (N := some 18) (v := ?_) (a' := ?_) #[true, false, true, false, true, false, false, false, false] rfl rfl (take_ofW HT_.out HW_.out (by kernel_rfl)) (fun _ _ _ h => h) (Or.inl ⟨by rfl, ?_⟩) hHeld ?_ ?_
  rotate_left
  ·
   rintro w' ⟨s0, s1, s2, s3, s4, s5⟩
   go_simp
   with_reducible rfl
  rotate_left
  ·
   simp only [Act.put, e1_, e2_, e3_, i64_w, i32_w]
   rfl
  refine one_ (i := 1) (N := some 15) qm4 rfl rfl (one_of HT_.out (by kernel_rfl)) (by decide) (fun K hK => ?_)
  refine goes_ Try.func37 (by kernel_rfl) rfl #[.agg #[.int .u64 a0_0, .int .i64 a0_1]] (by rfl) rfl rfl (by (try simp only [List.map_toArray, List.map_cons, List.map_nil]); first|done|rfl|(simp only [List.length_drop, List.length_take]; rfl)) ?_
  with_reducible refine (chatelainelaw08_Right.calls a0_0 a0_1 t138 t139 _ A6.out).mono ?_
  rintro e w16 ⟨rfl, hb⟩
  refine ⟨_, rfl, ?_⟩
  have n0_:=K_ (blk_below (g := gb134) (o := .cells #[.int .u64 a0_0, .int .i64 a0_1] 56 (0, 0)) (by (with_reducible repeat (first|refine bN_ ?_ _|refine bD_ ?_|refine bA_ ?_ _)); exact BK134.out) hb)
  have n1_:=K_ (blk_below (g := gb135) (o := .cells #[.int .u64 a1_0, .int .i64 a1_1] 56 (0, 0)) (by (with_reducible repeat (first|refine bN_ ?_ _|refine bD_ ?_|refine bA_ ?_ _)); exact BK135.out) hb)
  have n2_:=K_ (blk_below (g := gb136) (o := .cells #[.int .u64 a2_0, .int .i64 a2_1] 56 (0, 0)) (by (with_reducible repeat (first|refine bN_ ?_ _|refine bD_ ?_|refine bA_ ?_ _)); exact BK136.out) hb)
  have n3_:=K_ (below_step (by repeat (first|(with_reducible first|exact HB.out|apply pA_|apply pN_|apply pD_|refine bS_ ?_ GE134.out|refine bS_ ?_ GE135.out|refine bS_ ?_ GE136.out)|exact HB.out)) hb)
  clear BK134
  clear BK135
  clear BK136
  clear HB
  have BK134:=n0_
  have BK135:=n1_
  have BK136:=n2_
  have HB:=n3_
  clear n0_ n1_ n2_ n3_
  (try clear hb)
  (try clear hb2)
  (try clear hk)
  (try clear hi)
  refine hK.out _ _ ⟨(blk_cell BK134.out 0).trans rfl, (blk_cell BK134.out 1).trans rfl, (blk_cell BK135.out 0).trans rfl, (blk_cell BK135.out 1).trans rfl, (blk_cell BK136.out 0).trans rfl, (blk_cell BK136.out 1).trans rfl⟩ (fun hHeld => ?_)
  clear hK K
  refine norm_ (a' := ?_) ?_ ?_
  rotate_left
  ·
   show Act.put _ (some 15) _ = _
   simp only [Act.put, e1_, e2_, e3_, i64_w, i32_w]
   rfl
  refine one_ (i := 3) (N := some 17) qm5 rfl rfl (one_of HT_.out (by kernel_rfl)) (by decide) (fun K hK => ?_)
  refine goes_ Try.func37 (by kernel_rfl) rfl #[.agg #[.int .u64 a1_0, .int .i64 a1_1]] (by rfl) rfl rfl (by (try simp only [List.map_toArray, List.map_cons, List.map_nil]); first|done|rfl|(simp only [List.length_drop, List.length_take]; rfl)) ?_
  with_reducible refine (chatelainelaw08_Right.calls a1_0 a1_1 t140 t141 _ A7.out).mono ?_
  rintro e w17 ⟨rfl, hb⟩
  refine ⟨_, rfl, ?_⟩
  have n0_:=K_ (blk_below (g := gb134) (o := .cells #[.int .u64 a0_0, .int .i64 a0_1] 56 (0, 0)) (by (with_reducible repeat (first|refine bN_ ?_ _|refine bD_ ?_|refine bA_ ?_ _)); exact BK134.out) hb)
  have n1_:=K_ (blk_below (g := gb135) (o := .cells #[.int .u64 a1_0, .int .i64 a1_1] 56 (0, 0)) (by (with_reducible repeat (first|refine bN_ ?_ _|refine bD_ ?_|refine bA_ ?_ _)); exact BK135.out) hb)
  have n2_:=K_ (blk_below (g := gb136) (o := .cells #[.int .u64 a2_0, .int .i64 a2_1] 56 (0, 0)) (by (with_reducible repeat (first|refine bN_ ?_ _|refine bD_ ?_|refine bA_ ?_ _)); exact BK136.out) hb)
  have n3_:=K_ (below_step (by repeat (first|(with_reducible first|exact HB.out|apply pA_|apply pN_|apply pD_|refine bS_ ?_ GE134.out|refine bS_ ?_ GE135.out|refine bS_ ?_ GE136.out)|exact HB.out)) hb)
  clear BK134
  clear BK135
  clear BK136
  clear HB
  have BK134:=n0_
  have BK135:=n1_
  have BK136:=n2_
  have HB:=n3_
  clear n0_ n1_ n2_ n3_
  (try clear hb)
  (try clear hb2)
  (try clear hk)
  (try clear hi)
  refine hK.out _ _ ⟨(blk_cell BK134.out 0).trans rfl, (blk_cell BK134.out 1).trans rfl, (blk_cell BK135.out 0).trans rfl, (blk_cell BK135.out 1).trans rfl, (blk_cell BK136.out 0).trans rfl, (blk_cell BK136.out 1).trans rfl⟩ (fun hHeld => ?_)
  clear hK K
  refine norm_ (a' := ?_) ?_ ?_
  rotate_left
  ·
   show Act.put _ (some 17) _ = _
   simp only [Act.put, e1_, e2_, e3_, i64_w, i32_w]
   rfl
  refine one_ (i := 5) (N := some 19) qm6 rfl rfl (one_of HT_.out (by kernel_rfl)) (by decide) (fun K hK => ?_)
  refine goes_ Try.func37 (by kernel_rfl) rfl #[.agg #[.int .u64 a2_0, .int .i64 a2_1]] (by rfl) rfl rfl (by (try simp only [List.map_toArray, List.map_cons, List.map_nil]); first|done|rfl|(simp only [List.length_drop, List.length_take]; rfl)) ?_
  with_reducible refine (chatelainelaw08_Right.calls a2_0 a2_1 t142 t143 _ A8.out).mono ?_
  rintro e w18 ⟨rfl, hb⟩
  refine ⟨_, rfl, ?_⟩
  have n0_:=K_ (blk_below (g := gb134) (o := .cells #[.int .u64 a0_0, .int .i64 a0_1] 56 (0, 0)) (by (with_reducible repeat (first|refine bN_ ?_ _|refine bD_ ?_|refine bA_ ?_ _)); exact BK134.out) hb)
  have n1_:=K_ (blk_below (g := gb135) (o := .cells #[.int .u64 a1_0, .int .i64 a1_1] 56 (0, 0)) (by (with_reducible repeat (first|refine bN_ ?_ _|refine bD_ ?_|refine bA_ ?_ _)); exact BK135.out) hb)
  have n2_:=K_ (blk_below (g := gb136) (o := .cells #[.int .u64 a2_0, .int .i64 a2_1] 56 (0, 0)) (by (with_reducible repeat (first|refine bN_ ?_ _|refine bD_ ?_|refine bA_ ?_ _)); exact BK136.out) hb)
  have n3_:=K_ (below_step (by repeat (first|(with_reducible first|exact HB.out|apply pA_|apply pN_|apply pD_|refine bS_ ?_ GE134.out|refine bS_ ?_ GE135.out|refine bS_ ?_ GE136.out)|exact HB.out)) hb)
  clear BK134
  clear BK135
  clear BK136
  clear HB
  have BK134:=n0_
  have BK135:=n1_
  have BK136:=n2_
  have HB:=n3_
  clear n0_ n1_ n2_ n3_
  (try clear hb)
  (try clear hb2)
  (try clear hk)
  (try clear hi)
  refine hK.out _ _ ⟨(blk_cell BK134.out 0).trans rfl, (blk_cell BK134.out 1).trans rfl, (blk_cell BK135.out 0).trans rfl, (blk_cell BK135.out 1).trans rfl, (blk_cell BK136.out 0).trans rfl, (blk_cell BK136.out 1).trans rfl⟩ (fun hHeld => ?_)
  clear hK K
  refine norm_ (a' := ?_) ?_ ?_
  rotate_left
  ·
   show Act.put _ (some 19) _ = _
   simp only [Act.put, e1_, e2_, e3_, i64_w, i32_w]
   rfl
  refine last_ (i := 6) (N := none) qm7 rfl rfl (one_of HT_.out (by kernel_rfl)) (by decide) (fun K hK => ?_)
  have hs19 : w18.cell? ⟨gb134, 0, none⟩ = some (.int .u64 a0_0) := (blk_cell BK134.out 0).trans rfl
  have hfs19:=blk_frozen BK134.out 0
  have hns19_1:=NB135_134.out
  have hns19_2:=NB136_134.out
  have hms19_1:=NB134_135.out
  have hms19_2:=NB134_136.out
  have hs20 : w18.cell? ⟨gb134, 1, none⟩ = some (.int .i64 a0_1) := (blk_cell BK134.out 1).trans rfl
  have hfs20:=blk_frozen BK134.out 1
  have hns20_1:=NB135_134.out
  have hns20_2:=NB136_134.out
  have hms20_1:=NB134_135.out
  have hms20_2:=NB134_136.out
  refine skip_ (w1 := ?_) (by rfl) rfl ?_ ?_
  rotate_left
  ·
   go_simp
   rfl
  refine hK.out _ _ ?_
  clear hK K
  refine last_ (i := 7) (N := none) qm8 rfl rfl (one_of HT_.out (by kernel_rfl)) (by decide) (fun K hK => ?_)
  have hs21 : w18.cell? ⟨gb135, 0, none⟩ = some (.int .u64 a1_0) := (blk_cell BK135.out 0).trans rfl
  have hfs21:=blk_frozen BK135.out 0
  have hns21_0:=NB134_135.out
  have hns21_2:=NB136_135.out
  have hms21_0:=NB135_134.out
  have hms21_2:=NB135_136.out
  have hs22 : w18.cell? ⟨gb135, 1, none⟩ = some (.int .i64 a1_1) := (blk_cell BK135.out 1).trans rfl
  have hfs22:=blk_frozen BK135.out 1
  have hns22_0:=NB134_135.out
  have hns22_2:=NB136_135.out
  have hms22_0:=NB135_134.out
  have hms22_2:=NB135_136.out
  refine skip_ (w1 := ?_) (by rfl) rfl ?_ ?_
  rotate_left
  ·
   go_simp
   rfl
  refine hK.out _ _ ?_
  clear hK K
  refine last_ (i := 8) (N := none) qm9 rfl rfl (one_of HT_.out (by kernel_rfl)) (by decide) (fun K hK => ?_)
  have hs23 : w18.cell? ⟨gb136, 0, none⟩ = some (.int .u64 a2_0) := (blk_cell BK136.out 0).trans rfl
  have hfs23:=blk_frozen BK136.out 0
  have hns23_0:=NB134_136.out
  have hns23_1:=NB135_136.out
  have hms23_0:=NB136_134.out
  have hms23_1:=NB136_135.out
  have hs24 : w18.cell? ⟨gb136, 1, none⟩ = some (.int .i64 a2_1) := (blk_cell BK136.out 1).trans rfl
  have hfs24:=blk_frozen BK136.out 1
  have hns24_0:=NB134_136.out
  have hns24_1:=NB135_136.out
  have hms24_0:=NB136_134.out
  have hms24_1:=NB136_135.out
  refine skip_ (w1 := ?_) (by rfl) rfl ?_ ?_
  rotate_left
  ·
   go_simp
   rfl
  refine hK.out _ _ ?_
  clear hK K
  refine done_ (done_of HT_.out (by kernel_rfl)) ?_
  try go_wp2
  have n0_ : Aside0 (((((((w18.setCell ⟨gb134, 0, none⟩ (.int .u64 t138)).setCell ⟨gb134, 1, none⟩ (.int .i64 t139)).setCell ⟨gb135, 0, none⟩ (.int .u64 t140)).setCell ⟨gb135, 1, none⟩ (.int .i64 t141)).setCell ⟨gb136, 0, none⟩ (.int .u64 t142)).setCell ⟨gb136, 1, none⟩ (.int .i64 t143)).heap[gb134]? = some (.cells #[.int .u64 t138, .int .i64 t139] 56 (0, 0))) := ⟨by (with_reducible repeat (first|refine bN_ ?_ _|refine bD_ ?_|refine bA_ ?_ _)); refine blk_far ?_ NB134_136.out _; (with_reducible repeat (first|refine bN_ ?_ _|refine bD_ ?_|refine bA_ ?_ _)); refine blk_far ?_ NB134_136.out _; (with_reducible repeat (first|refine bN_ ?_ _|refine bD_ ?_|refine bA_ ?_ _)); refine blk_far ?_ NB134_135.out _; (with_reducible repeat (first|refine bN_ ?_ _|refine bD_ ?_|refine bA_ ?_ _)); refine blk_far ?_ NB134_135.out _; (with_reducible repeat (first|refine bN_ ?_ _|refine bD_ ?_|refine bA_ ?_ _)); refine blk_put (cs := #[.int .u64 t138, .int .i64 a0_1]) ?_ 1 _ rfl; (with_reducible repeat (first|refine bN_ ?_ _|refine bD_ ?_|refine bA_ ?_ _)); refine blk_put (cs := #[.int .u64 a0_0, .int .i64 a0_1]) ?_ 0 _ rfl; (with_reducible repeat (first|refine bN_ ?_ _|refine bD_ ?_|refine bA_ ?_ _)); exact BK134.out⟩
  have n1_ : Aside0 (((((((w18.setCell ⟨gb134, 0, none⟩ (.int .u64 t138)).setCell ⟨gb134, 1, none⟩ (.int .i64 t139)).setCell ⟨gb135, 0, none⟩ (.int .u64 t140)).setCell ⟨gb135, 1, none⟩ (.int .i64 t141)).setCell ⟨gb136, 0, none⟩ (.int .u64 t142)).setCell ⟨gb136, 1, none⟩ (.int .i64 t143)).heap[gb135]? = some (.cells #[.int .u64 t140, .int .i64 t141] 56 (0, 0))) := ⟨by (with_reducible repeat (first|refine bN_ ?_ _|refine bD_ ?_|refine bA_ ?_ _)); refine blk_far ?_ NB135_136.out _; (with_reducible repeat (first|refine bN_ ?_ _|refine bD_ ?_|refine bA_ ?_ _)); refine blk_far ?_ NB135_136.out _; (with_reducible repeat (first|refine bN_ ?_ _|refine bD_ ?_|refine bA_ ?_ _)); refine blk_put (cs := #[.int .u64 t140, .int .i64 a1_1]) ?_ 1 _ rfl; (with_reducible repeat (first|refine bN_ ?_ _|refine bD_ ?_|refine bA_ ?_ _)); refine blk_put (cs := #[.int .u64 a1_0, .int .i64 a1_1]) ?_ 0 _ rfl; (with_reducible repeat (first|refine bN_ ?_ _|refine bD_ ?_|refine bA_ ?_ _)); refine blk_far ?_ NB135_134.out _; (with_reducible repeat (first|refine bN_ ?_ _|refine bD_ ?_|refine bA_ ?_ _)); refine blk_far ?_ NB135_134.out _; (with_reducible repeat (first|refine bN_ ?_ _|refine bD_ ?_|refine bA_ ?_ _)); exact BK135.out⟩
  have n2_ : Aside0 (((((((w18.setCell ⟨gb134, 0, none⟩ (.int .u64 t138)).setCell ⟨gb134, 1, none⟩ (.int .i64 t139)).setCell ⟨gb135, 0, none⟩ (.int .u64 t140)).setCell ⟨gb135, 1, none⟩ (.int .i64 t141)).setCell ⟨gb136, 0, none⟩ (.int .u64 t142)).setCell ⟨gb136, 1, none⟩ (.int .i64 t143)).heap[gb136]? = some (.cells #[.int .u64 t142, .int .i64 t143] 56 (0, 0))) := ⟨by (with_reducible repeat (first|refine bN_ ?_ _|refine bD_ ?_|refine bA_ ?_ _)); refine blk_put (cs := #[.int .u64 t142, .int .i64 a2_1]) ?_ 1 _ rfl; (with_reducible repeat (first|refine bN_ ?_ _|refine bD_ ?_|refine bA_ ?_ _)); refine blk_put (cs := #[.int .u64 a2_0, .int .i64 a2_1]) ?_ 0 _ rfl; (with_reducible repeat (first|refine bN_ ?_ _|refine bD_ ?_|refine bA_ ?_ _)); refine blk_far ?_ NB136_135.out _; (with_reducible repeat (first|refine bN_ ?_ _|refine bD_ ?_|refine bA_ ?_ _)); refine blk_far ?_ NB136_135.out _; (with_reducible repeat (first|refine bN_ ?_ _|refine bD_ ?_|refine bA_ ?_ _)); refine blk_far ?_ NB136_134.out _; (with_reducible repeat (first|refine bN_ ?_ _|refine bD_ ?_|refine bA_ ?_ _)); refine blk_far ?_ NB136_134.out _; (with_reducible repeat (first|refine bN_ ?_ _|refine bD_ ?_|refine bA_ ?_ _)); exact BK136.out⟩
  have n3_ : Aside0 (Below w.heap.size w ((((((w18.setCell ⟨gb134, 0, none⟩ (.int .u64 t138)).setCell ⟨gb134, 1, none⟩ (.int .i64 t139)).setCell ⟨gb135, 0, none⟩ (.int .u64 t140)).setCell ⟨gb135, 1, none⟩ (.int .i64 t141)).setCell ⟨gb136, 0, none⟩ (.int .u64 t142)).setCell ⟨gb136, 1, none⟩ (.int .i64 t143))) := ⟨by repeat (first|(with_reducible first|exact HB.out|apply pA_|apply pN_|apply pD_|refine bS_ ?_ GE134.out|refine bS_ ?_ GE135.out|refine bS_ ?_ GE136.out)|exact HB.out)⟩
  (try clear BK134)
  (try clear BK135)
  (try clear BK136)
  (try clear HB)
  generalize ((((((w18.setCell ⟨gb134, 0, none⟩ (.int .u64 t138)).setCell ⟨gb134, 1, none⟩ (.int .i64 t139)).setCell ⟨gb135, 0, none⟩ (.int .u64 t140)).setCell ⟨gb135, 1, none⟩ (.int .i64 t141)).setCell ⟨gb136, 0, none⟩ (.int .u64 t142)).setCell ⟨gb136, 1, none⟩ (.int .i64 t143)) = w25 at n0_ n1_ n2_ n3_ ⊢
  have BK134:=n0_
  have BK135:=n1_
  have BK136:=n2_
  have HB:=n3_
  clear n0_ n1_ n2_ n3_
  have n0_:=K_ (bD_ BK134.out)
  have n1_:=K_ (bD_ BK135.out)
  have n2_:=K_ (bD_ BK136.out)
  have n3_:=K_ (pD_ HB.out)
  clear BK134
  clear BK135
  clear BK136
  clear HB
  have BK134:=n0_
  have BK135:=n1_
  have BK136:=n2_
  have HB:=n3_
  clear n0_ n1_ n2_ n3_
  refine start_ (n := 9) (S := fun w' => w'.cell? ⟨gb134, 0, none⟩ = some (.int .u64 t138) ∧ w'.cell? ⟨gb134, 1, none⟩ = some (.int .i64 t139) ∧ w'.cell? ⟨gb135, 0, none⟩ = some (.int .u64 t140) ∧ w'.cell? ⟨gb135, 1, none⟩ = some (.int .i64 t141) ∧ w'.cell? ⟨gb136, 0, none⟩ = some (.int .u64 t142) ∧ w'.cell? ⟨gb136, 1, none⟩ = some (.int .i64 t143)) (ds := []) qm0 (by kernel_rfl) rfl rfl ⟨(blk_cell BK134.out 0).trans rfl, (blk_cell BK134.out 1).trans rfl, (blk_cell BK135.out 0).trans rfl, (blk_cell BK135.out 1).trans rfl, (blk_cell BK136.out 0).trans rfl, (blk_cell BK136.out 1).trans rfl⟩ (fun hHeld => ?_); refine with_tabW chatelainelaw08_BallotOrder.tab4 chatelainelaw08_BallotOrder.bits4 (fun HT_ HW_ => ?_)
  generalize w25.drew = w26 at BK134 BK135 BK136 HB hHeld ⊢
  refine take_ (i := 0) (N := some 20) (v := ?_) (a' := ?_) qm1 rfl rfl (take_ofW HT_.out HW_.out (by kernel_rfl)) (fun _ _ _ h => h) (Or.inl ⟨by rfl, ?_⟩) hHeld ?_ ?_
  rotate_left
  ·
   rintro w' ⟨s0, s1, s2, s3, s4, s5⟩
   go_simp
   with_reducible rfl
  rotate_left
  ·
   simp only [Act.put, e1_, e2_, e3_, i64_w, i32_w]
   rfl
  refine take_ (i := 1) (N := some 21) (v := ?_) (a' := ?_) #[true, true, false, false, false, false, false, false, false] rfl rfl (take_ofW HT_.out HW_.out (by kernel_rfl)) (fun _ _ _ h => h) (Or.inl ⟨by rfl, ?_⟩) hHeld ?_ ?_
  rotate_left
  ·
   rintro w' ⟨s0, s1, s2, s3, s4, s5⟩
   go_simp
   with_reducible rfl
  rotate_left
  ·
   simp only [Act.put, e1_, e2_, e3_, i64_w, i32_w]
   rfl
  refine take_ (i := 2) (N := some 22) (v := ?_) (a' := ?_) #[true, true, true, false, false, false, false, false, false] rfl rfl (take_ofW HT_.out HW_.out (by kernel_rfl)) (fun _ _ _ h => h) (Or.inl ⟨by rfl, ?_⟩) hHeld ?_ ?_
  rotate_left
  ·
   rintro w' ⟨s0, s1, s2, s3, s4, s5⟩
   go_simp
   with_reducible rfl
  rotate_left
  ·
   simp only [Act.put, e1_, e2_, e3_, i64_w, i32_w]
   rfl
  refine join_ (σ := Nat × Nat × Nat) 3 qm6 (fun s_ => [(7, .pointer (some ⟨s_.1, 0, none⟩)), (8, .pointer (some ⟨s_.2.1, 0, none⟩)), (9, .pointer (some ⟨s_.2.2, 0, none⟩))]) (fun s_ w' => (w'.cell? ⟨gb134, 0, none⟩ = some (.int .u64 t138) ∧ w'.cell? ⟨gb134, 1, none⟩ = some (.int .i64 t139) ∧ w'.cell? ⟨gb135, 0, none⟩ = some (.int .u64 t140) ∧ w'.cell? ⟨gb135, 1, none⟩ = some (.int .i64 t141) ∧ w'.cell? ⟨gb136, 0, none⟩ = some (.int .u64 t142) ∧ w'.cell? ⟨gb136, 1, none⟩ = some (.int .i64 t143)) ∧ (w'.heap[gb134]? = some (.cells #[.int .u64 t138, .int .i64 t139] 56 (0, 0))) ∧ (w'.heap[gb135]? = some (.cells #[.int .u64 t140, .int .i64 t141] 56 (0, 0))) ∧ (w'.heap[gb136]? = some (.cells #[.int .u64 t142, .int .i64 t143] 56 (0, 0))) ∧ (w'.heap[s_.1]? = some (.cells #[.int .u64 0, .int .i64 0] 58 (0, 0))) ∧ (w'.heap[s_.2.1]? = some (.cells #[.int .u64 0, .int .i64 0] 58 (0, 0))) ∧ (w'.heap[s_.2.2]? = some (.cells #[.int .u64 0, .int .i64 0] 58 (0, 0))) ∧ (w.heap.size ≤ s_.1) ∧ (w.heap.size ≤ s_.1) ∧ (gb134 ≠ s_.1) ∧ (s_.1 ≠ gb134) ∧ (gb135 ≠ s_.1) ∧ (s_.1 ≠ gb135) ∧ (gb136 ≠ s_.1) ∧ (s_.1 ≠ gb136) ∧ (s_.2.1 ≠ s_.1) ∧ (s_.1 ≠ s_.2.1) ∧ (s_.2.2 ≠ s_.1) ∧ (s_.1 ≠ s_.2.2) ∧ (w.heap.size ≤ s_.2.1) ∧ (w.heap.size ≤ s_.2.1) ∧ (gb134 ≠ s_.2.1) ∧ (s_.2.1 ≠ gb134) ∧ (gb135 ≠ s_.2.1) ∧ (s_.2.1 ≠ gb135) ∧ (gb136 ≠ s_.2.1) ∧ (s_.2.1 ≠ gb136) ∧ (s_.2.2 ≠ s_.2.1) ∧ (s_.2.1 ≠ s_.2.2) ∧ (w.heap.size ≤ s_.2.2) ∧ (w.heap.size ≤ s_.2.2) ∧ (gb134 ≠ s_.2.2) ∧ (s_.2.2 ≠ gb134) ∧ (gb135 ≠ s_.2.2) ∧ (s_.2.2 ≠ gb135) ∧ (gb136 ≠ s_.2.2) ∧ (s_.2.2 ≠ gb136) ∧ (Below w.heap.size w w')) ?_ ?_
  rotate_left
  ·
   intro hJ3_4_5
   refine join_ (σ := Nat × Nat) 4 qm5 (fun s_ => [(7, .pointer (some ⟨s_.1, 0, none⟩)), (8, .pointer (some ⟨s_.2, 0, none⟩))]) (fun s_ w' => (w'.cell? ⟨gb134, 0, none⟩ = some (.int .u64 t138) ∧ w'.cell? ⟨gb134, 1, none⟩ = some (.int .i64 t139) ∧ w'.cell? ⟨gb135, 0, none⟩ = some (.int .u64 t140) ∧ w'.cell? ⟨gb135, 1, none⟩ = some (.int .i64 t141) ∧ w'.cell? ⟨gb136, 0, none⟩ = some (.int .u64 t142) ∧ w'.cell? ⟨gb136, 1, none⟩ = some (.int .i64 t143)) ∧ (w'.heap[gb134]? = some (.cells #[.int .u64 t138, .int .i64 t139] 56 (0, 0))) ∧ (w'.heap[gb135]? = some (.cells #[.int .u64 t140, .int .i64 t141] 56 (0, 0))) ∧ (w'.heap[gb136]? = some (.cells #[.int .u64 t142, .int .i64 t143] 56 (0, 0))) ∧ (w'.heap[s_.1]? = some (.cells #[.int .u64 0, .int .i64 0] 58 (0, 0))) ∧ (w'.heap[s_.2]? = some (.cells #[.int .u64 0, .int .i64 0] 58 (0, 0))) ∧ (w.heap.size ≤ s_.1) ∧ (w.heap.size ≤ s_.1) ∧ (gb134 ≠ s_.1) ∧ (s_.1 ≠ gb134) ∧ (gb135 ≠ s_.1) ∧ (s_.1 ≠ gb135) ∧ (gb136 ≠ s_.1) ∧ (s_.1 ≠ gb136) ∧ (s_.2 ≠ s_.1) ∧ (s_.1 ≠ s_.2) ∧ (w.heap.size ≤ s_.2) ∧ (w.heap.size ≤ s_.2) ∧ (gb134 ≠ s_.2) ∧ (s_.2 ≠ gb134) ∧ (gb135 ≠ s_.2) ∧ (s_.2 ≠ gb135) ∧ (gb136 ≠ s_.2) ∧ (s_.2 ≠ gb136) ∧ (Below w.heap.size w w')) ?_ ?_
   rotate_left
   ·
    intro hJ3_4
    refine join_ (σ := Nat × Nat) 4 qm12 (fun s_ => [(7, .pointer (some ⟨s_.1, 0, none⟩)), (9, .pointer (some ⟨s_.2, 0, none⟩))]) (fun s_ w' => (w'.cell? ⟨gb134, 0, none⟩ = some (.int .u64 t138) ∧ w'.cell? ⟨gb134, 1, none⟩ = some (.int .i64 t139) ∧ w'.cell? ⟨gb135, 0, none⟩ = some (.int .u64 t140) ∧ w'.cell? ⟨gb135, 1, none⟩ = some (.int .i64 t141) ∧ w'.cell? ⟨gb136, 0, none⟩ = some (.int .u64 t142) ∧ w'.cell? ⟨gb136, 1, none⟩ = some (.int .i64 t143)) ∧ (w'.heap[gb134]? = some (.cells #[.int .u64 t138, .int .i64 t139] 56 (0, 0))) ∧ (w'.heap[gb135]? = some (.cells #[.int .u64 t140, .int .i64 t141] 56 (0, 0))) ∧ (w'.heap[gb136]? = some (.cells #[.int .u64 t142, .int .i64 t143] 56 (0, 0))) ∧ (w'.heap[s_.1]? = some (.cells #[.int .u64 0, .int .i64 0] 58 (0, 0))) ∧ (w'.heap[s_.2]? = some (.cells #[.int .u64 0, .int .i64 0] 58 (0, 0))) ∧ (w.heap.size ≤ s_.1) ∧ (w.heap.size ≤ s_.1) ∧ (gb134 ≠ s_.1) ∧ (s_.1 ≠ gb134) ∧ (gb135 ≠ s_.1) ∧ (s_.1 ≠ gb135) ∧ (gb136 ≠ s_.1) ∧ (s_.1 ≠ gb136) ∧ (s_.2 ≠ s_.1) ∧ (s_.1 ≠ s_.2) ∧ (w.heap.size ≤ s_.2) ∧ (w.heap.size ≤ s_.2) ∧ (gb134 ≠ s_.2) ∧ (s_.2 ≠ gb134) ∧ (gb135 ≠ s_.2) ∧ (s_.2 ≠ gb135) ∧ (gb136 ≠ s_.2) ∧ (s_.2 ≠ gb136) ∧ (Below w.heap.size w w')) ?_ ?_
    rotate_left
    ·
     intro hJ3_5
     refine join_ (σ := Nat × Nat) 4 qm13 (fun s_ => [(8, .pointer (some ⟨s_.1, 0, none⟩)), (9, .pointer (some ⟨s_.2, 0, none⟩))]) (fun s_ w' => (w'.cell? ⟨gb134, 0, none⟩ = some (.int .u64 t138) ∧ w'.cell? ⟨gb134, 1, none⟩ = some (.int .i64 t139) ∧ w'.cell? ⟨gb135, 0, none⟩ = some (.int .u64 t140) ∧ w'.cell? ⟨gb135, 1, none⟩ = some (.int .i64 t141) ∧ w'.cell? ⟨gb136, 0, none⟩ = some (.int .u64 t142) ∧ w'.cell? ⟨gb136, 1, none⟩ = some (.int .i64 t143)) ∧ (w'.heap[gb134]? = some (.cells #[.int .u64 t138, .int .i64 t139] 56 (0, 0))) ∧ (w'.heap[gb135]? = some (.cells #[.int .u64 t140, .int .i64 t141] 56 (0, 0))) ∧ (w'.heap[gb136]? = some (.cells #[.int .u64 t142, .int .i64 t143] 56 (0, 0))) ∧ (w'.heap[s_.1]? = some (.cells #[.int .u64 0, .int .i64 0] 58 (0, 0))) ∧ (w'.heap[s_.2]? = some (.cells #[.int .u64 0, .int .i64 0] 58 (0, 0))) ∧ (w.heap.size ≤ s_.1) ∧ (w.heap.size ≤ s_.1) ∧ (gb134 ≠ s_.1) ∧ (s_.1 ≠ gb134) ∧ (gb135 ≠ s_.1) ∧ (s_.1 ≠ gb135) ∧ (gb136 ≠ s_.1) ∧ (s_.1 ≠ gb136) ∧ (s_.2 ≠ s_.1) ∧ (s_.1 ≠ s_.2) ∧ (w.heap.size ≤ s_.2) ∧ (w.heap.size ≤ s_.2) ∧ (gb134 ≠ s_.2) ∧ (s_.2 ≠ gb134) ∧ (gb135 ≠ s_.2) ∧ (s_.2 ≠ gb135) ∧ (gb136 ≠ s_.2) ∧ (s_.2 ≠ gb136) ∧ (Below w.heap.size w w')) ?_ ?_
     rotate_left
     ·
      intro hJ4_5
      refine join_ (σ := Nat) 5 qm14 (fun s_ => [(7, .pointer (some ⟨s_, 0, none⟩))]) (fun s_ w' => (w'.cell? ⟨gb134, 0, none⟩ = some (.int .u64 t138) ∧ w'.cell? ⟨gb134, 1, none⟩ = some (.int .i64 t139) ∧ w'.cell? ⟨gb135, 0, none⟩ = some (.int .u64 t140) ∧ w'.cell? ⟨gb135, 1, none⟩ = some (.int .i64 t141) ∧ w'.cell? ⟨gb136, 0, none⟩ = some (.int .u64 t142) ∧ w'.cell? ⟨gb136, 1, none⟩ = some (.int .i64 t143)) ∧ (w'.heap[gb134]? = some (.cells #[.int .u64 t138, .int .i64 t139] 56 (0, 0))) ∧ (w'.heap[gb135]? = some (.cells #[.int .u64 t140, .int .i64 t141] 56 (0, 0))) ∧ (w'.heap[gb136]? = some (.cells #[.int .u64 t142, .int .i64 t143] 56 (0, 0))) ∧ (w'.heap[s_]? = some (.cells #[.int .u64 0, .int .i64 0] 58 (0, 0))) ∧ (w.heap.size ≤ s_) ∧ (w.heap.size ≤ s_) ∧ (gb134 ≠ s_) ∧ (s_ ≠ gb134) ∧ (gb135 ≠ s_) ∧ (s_ ≠ gb135) ∧ (gb136 ≠ s_) ∧ (s_ ≠ gb136) ∧ (Below w.heap.size w w')) ?_ ?_
      rotate_left
      ·
       intro hJ3
       refine join_ (σ := Nat) 5 qm4 (fun s_ => [(8, .pointer (some ⟨s_, 0, none⟩))]) (fun s_ w' => (w'.cell? ⟨gb134, 0, none⟩ = some (.int .u64 t138) ∧ w'.cell? ⟨gb134, 1, none⟩ = some (.int .i64 t139) ∧ w'.cell? ⟨gb135, 0, none⟩ = some (.int .u64 t140) ∧ w'.cell? ⟨gb135, 1, none⟩ = some (.int .i64 t141) ∧ w'.cell? ⟨gb136, 0, none⟩ = some (.int .u64 t142) ∧ w'.cell? ⟨gb136, 1, none⟩ = some (.int .i64 t143)) ∧ (w'.heap[gb134]? = some (.cells #[.int .u64 t138, .int .i64 t139] 56 (0, 0))) ∧ (w'.heap[gb135]? = some (.cells #[.int .u64 t140, .int .i64 t141] 56 (0, 0))) ∧ (w'.heap[gb136]? = some (.cells #[.int .u64 t142, .int .i64 t143] 56 (0, 0))) ∧ (w'.heap[s_]? = some (.cells #[.int .u64 0, .int .i64 0] 58 (0, 0))) ∧ (w.heap.size ≤ s_) ∧ (w.heap.size ≤ s_) ∧ (gb134 ≠ s_) ∧ (s_ ≠ gb134) ∧ (gb135 ≠ s_) ∧ (s_ ≠ gb135) ∧ (gb136 ≠ s_) ∧ (s_ ≠ gb136) ∧ (Below w.heap.size w w')) ?_ ?_
       rotate_left
       ·
        intro hJ4
        refine join_ (σ := Nat) 5 qm15 (fun s_ => [(9, .pointer (some ⟨s_, 0, none⟩))]) (fun s_ w' => (w'.cell? ⟨gb134, 0, none⟩ = some (.int .u64 t138) ∧ w'.cell? ⟨gb134, 1, none⟩ = some (.int .i64 t139) ∧ w'.cell? ⟨gb135, 0, none⟩ = some (.int .u64 t140) ∧ w'.cell? ⟨gb135, 1, none⟩ = some (.int .i64 t141) ∧ w'.cell? ⟨gb136, 0, none⟩ = some (.int .u64 t142) ∧ w'.cell? ⟨gb136, 1, none⟩ = some (.int .i64 t143)) ∧ (w'.heap[gb134]? = some (.cells #[.int .u64 t138, .int .i64 t139] 56 (0, 0))) ∧ (w'.heap[gb135]? = some (.cells #[.int .u64 t140, .int .i64 t141] 56 (0, 0))) ∧ (w'.heap[gb136]? = some (.cells #[.int .u64 t142, .int .i64 t143] 56 (0, 0))) ∧ (w'.heap[s_]? = some (.cells #[.int .u64 0, .int .i64 0] 58 (0, 0))) ∧ (w.heap.size ≤ s_) ∧ (w.heap.size ≤ s_) ∧ (gb134 ≠ s_) ∧ (s_ ≠ gb134) ∧ (gb135 ≠ s_) ∧ (s_ ≠ gb135) ∧ (gb136 ≠ s_) ∧ (s_ ≠ gb136) ∧ (Below w.heap.size w w')) ?_ ?_
        rotate_left
        ·
         intro hJ5
         refine three_ (i := 3) (j := 4) (k := 5) (Ni := some 7) (Nj := some 8) (Nk := some 9) qm14 qm4 qm15 rfl rfl rfl rfl rfl rfl (three_of HT_.out (by kernel_rfl)) (by decide) (by decide) (by decide) (fun K hK => ?_) (fun K hK => ?_) (fun K hK => ?_)
         ·
          skip
          refine box_step ?hg (N := 7) ?hd (cs := #[.int .u64 0, .int .i64 0]) (t := 58) ?hr ?_; (case hd => rfl); (case hg => rfl); (case hr => first|(go_simp; done)|(go_simp; rfl))
          intro gb144 hg w27 hbox hb
          have n0_:=K_ (blk_below (g := gb134) (o := .cells #[.int .u64 t138, .int .i64 t139] 56 (0, 0)) (by (with_reducible repeat (first|refine bN_ ?_ _|refine bD_ ?_|refine bA_ ?_ _)); exact BK134.out) hb)
          have n1_:=K_ (blk_below (g := gb135) (o := .cells #[.int .u64 t140, .int .i64 t141] 56 (0, 0)) (by (with_reducible repeat (first|refine bN_ ?_ _|refine bD_ ?_|refine bA_ ?_ _)); exact BK135.out) hb)
          have n2_:=K_ (blk_below (g := gb136) (o := .cells #[.int .u64 t142, .int .i64 t143] 56 (0, 0)) (by (with_reducible repeat (first|refine bN_ ?_ _|refine bD_ ?_|refine bA_ ?_ _)); exact BK136.out) hb)
          have n3_:=K_ (below_step (by repeat (first|(with_reducible first|exact HB.out|apply pA_|apply pN_|apply pD_|refine bS_ ?_ GE134.out|refine bS_ ?_ GE135.out|refine bS_ ?_ GE136.out)|exact HB.out)) hb)
          have n4_:=K_ (hbox)
          have n5_:=K_ ((by rw [hg]; exact (below_size (by repeat (first|(with_reducible first|exact HB.out|apply pA_|apply pN_|apply pD_|refine bS_ ?_ GE134.out|refine bS_ ?_ GE135.out|refine bS_ ?_ GE136.out)|exact HB.out))) : w.heap.size ≤ gb144))
          have n6_:=K_ ((by rw [hg]; exact (below_size (by repeat (first|(with_reducible first|exact HB.out|apply pA_|apply pN_|apply pD_|refine bS_ ?_ GE134.out|refine bS_ ?_ GE135.out|refine bS_ ?_ GE136.out)|exact HB.out))) : w.heap.size ≤ gb144))
          have n7_:=K_ ((by rw [hg]; exact Nat.ne_of_lt (blk_lt (g := gb134) (o := .cells #[.int .u64 t138, .int .i64 t139] 56 (0, 0)) (by (with_reducible repeat (first|refine bN_ ?_ _|refine bD_ ?_|refine bA_ ?_ _)); exact BK134.out)) : gb134 ≠ gb144))
          have n8_:=K_ ((by rw [hg]; exact Nat.ne_of_gt (blk_lt (g := gb134) (o := .cells #[.int .u64 t138, .int .i64 t139] 56 (0, 0)) (by (with_reducible repeat (first|refine bN_ ?_ _|refine bD_ ?_|refine bA_ ?_ _)); exact BK134.out)) : gb144 ≠ gb134))
          have n9_:=K_ ((by rw [hg]; exact Nat.ne_of_lt (blk_lt (g := gb135) (o := .cells #[.int .u64 t140, .int .i64 t141] 56 (0, 0)) (by (with_reducible repeat (first|refine bN_ ?_ _|refine bD_ ?_|refine bA_ ?_ _)); exact BK135.out)) : gb135 ≠ gb144))
          have n10_:=K_ ((by rw [hg]; exact Nat.ne_of_gt (blk_lt (g := gb135) (o := .cells #[.int .u64 t140, .int .i64 t141] 56 (0, 0)) (by (with_reducible repeat (first|refine bN_ ?_ _|refine bD_ ?_|refine bA_ ?_ _)); exact BK135.out)) : gb144 ≠ gb135))
          have n11_:=K_ ((by rw [hg]; exact Nat.ne_of_lt (blk_lt (g := gb136) (o := .cells #[.int .u64 t142, .int .i64 t143] 56 (0, 0)) (by (with_reducible repeat (first|refine bN_ ?_ _|refine bD_ ?_|refine bA_ ?_ _)); exact BK136.out)) : gb136 ≠ gb144))
          have n12_:=K_ ((by rw [hg]; exact Nat.ne_of_gt (blk_lt (g := gb136) (o := .cells #[.int .u64 t142, .int .i64 t143] 56 (0, 0)) (by (with_reducible repeat (first|refine bN_ ?_ _|refine bD_ ?_|refine bA_ ?_ _)); exact BK136.out)) : gb144 ≠ gb136))
          clear BK134
          clear BK135
          clear BK136
          clear HB
          have BK134:=n0_
          have BK135:=n1_
          have BK136:=n2_
          have HB:=n3_
          have BK144:=n4_
          have GW144:=n5_
          have GE144:=n6_
          have NB134_144:=n7_
          have NB144_134:=n8_
          have NB135_144:=n9_
          have NB144_135:=n10_
          have NB136_144:=n11_
          have NB144_136:=n12_
          clear n0_ n1_ n2_ n3_ n4_ n5_ n6_ n7_ n8_ n9_ n10_ n11_ n12_
          clear hb hbox hg
          refine hK.out _ _ ⟨(blk_cell BK134.out 0).trans rfl, (blk_cell BK134.out 1).trans rfl, (blk_cell BK135.out 0).trans rfl, (blk_cell BK135.out 1).trans rfl, (blk_cell BK136.out 0).trans rfl, (blk_cell BK136.out 1).trans rfl⟩ (fun hHeld => ?_)
          clear hK K
          refine norm_ (a' := ?_) ?_ ?_
          rotate_left
          ·
           show Act.put _ (some 7) _ = _
           simp only [Act.put, e1_, e2_, e3_, i64_w, i32_w]
           rfl
          exact norm_ (by first|(simp only [putAll, Act.put, List.setIfInBounds_toArray, List.set_cons_zero, List.set_cons_succ]; done)|(simp only [putAll, Act.put, List.setIfInBounds_toArray, List.set_cons_zero, List.set_cons_succ]; rfl)) (hJ3 (gb144) _ ⟨hHeld, (by (with_reducible repeat (first|refine bN_ ?_ _|refine bD_ ?_|refine bA_ ?_ _)); exact BK134.out), (by (with_reducible repeat (first|refine bN_ ?_ _|refine bD_ ?_|refine bA_ ?_ _)); exact BK135.out), (by (with_reducible repeat (first|refine bN_ ?_ _|refine bD_ ?_|refine bA_ ?_ _)); exact BK136.out), (by (with_reducible repeat (first|refine bN_ ?_ _|refine bD_ ?_|refine bA_ ?_ _)); exact BK144.out), GW144.out, GE144.out, NB134_144.out, NB144_134.out, NB135_144.out, NB144_135.out, NB136_144.out, NB144_136.out, (by repeat (first|(with_reducible first|exact HB.out|apply pA_|apply pN_|apply pD_|refine bS_ ?_ GE134.out|refine bS_ ?_ GE135.out|refine bS_ ?_ GE136.out|refine bS_ ?_ GE144.out)|exact HB.out))⟩)
         ·
          skip
          refine box_step ?hg (N := 8) ?hd (cs := #[.int .u64 0, .int .i64 0]) (t := 58) ?hr ?_; (case hd => rfl); (case hg => rfl); (case hr => first|(go_simp; done)|(go_simp; rfl))
          intro gb145 hg w27 hbox hb
          have n0_:=K_ (blk_below (g := gb134) (o := .cells #[.int .u64 t138, .int .i64 t139] 56 (0, 0)) (by (with_reducible repeat (first|refine bN_ ?_ _|refine bD_ ?_|refine bA_ ?_ _)); exact BK134.out) hb)
          have n1_:=K_ (blk_below (g := gb135) (o := .cells #[.int .u64 t140, .int .i64 t141] 56 (0, 0)) (by (with_reducible repeat (first|refine bN_ ?_ _|refine bD_ ?_|refine bA_ ?_ _)); exact BK135.out) hb)
          have n2_:=K_ (blk_below (g := gb136) (o := .cells #[.int .u64 t142, .int .i64 t143] 56 (0, 0)) (by (with_reducible repeat (first|refine bN_ ?_ _|refine bD_ ?_|refine bA_ ?_ _)); exact BK136.out) hb)
          have n3_:=K_ (below_step (by repeat (first|(with_reducible first|exact HB.out|apply pA_|apply pN_|apply pD_|refine bS_ ?_ GE134.out|refine bS_ ?_ GE135.out|refine bS_ ?_ GE136.out)|exact HB.out)) hb)
          have n4_:=K_ (hbox)
          have n5_:=K_ ((by rw [hg]; exact (below_size (by repeat (first|(with_reducible first|exact HB.out|apply pA_|apply pN_|apply pD_|refine bS_ ?_ GE134.out|refine bS_ ?_ GE135.out|refine bS_ ?_ GE136.out)|exact HB.out))) : w.heap.size ≤ gb145))
          have n6_:=K_ ((by rw [hg]; exact (below_size (by repeat (first|(with_reducible first|exact HB.out|apply pA_|apply pN_|apply pD_|refine bS_ ?_ GE134.out|refine bS_ ?_ GE135.out|refine bS_ ?_ GE136.out)|exact HB.out))) : w.heap.size ≤ gb145))
          have n7_:=K_ ((by rw [hg]; exact Nat.ne_of_lt (blk_lt (g := gb134) (o := .cells #[.int .u64 t138, .int .i64 t139] 56 (0, 0)) (by (with_reducible repeat (first|refine bN_ ?_ _|refine bD_ ?_|refine bA_ ?_ _)); exact BK134.out)) : gb134 ≠ gb145))
          have n8_:=K_ ((by rw [hg]; exact Nat.ne_of_gt (blk_lt (g := gb134) (o := .cells #[.int .u64 t138, .int .i64 t139] 56 (0, 0)) (by (with_reducible repeat (first|refine bN_ ?_ _|refine bD_ ?_|refine bA_ ?_ _)); exact BK134.out)) : gb145 ≠ gb134))
          have n9_:=K_ ((by rw [hg]; exact Nat.ne_of_lt (blk_lt (g := gb135) (o := .cells #[.int .u64 t140, .int .i64 t141] 56 (0, 0)) (by (with_reducible repeat (first|refine bN_ ?_ _|refine bD_ ?_|refine bA_ ?_ _)); exact BK135.out)) : gb135 ≠ gb145))
          have n10_:=K_ ((by rw [hg]; exact Nat.ne_of_gt (blk_lt (g := gb135) (o := .cells #[.int .u64 t140, .int .i64 t141] 56 (0, 0)) (by (with_reducible repeat (first|refine bN_ ?_ _|refine bD_ ?_|refine bA_ ?_ _)); exact BK135.out)) : gb145 ≠ gb135))
          have n11_:=K_ ((by rw [hg]; exact Nat.ne_of_lt (blk_lt (g := gb136) (o := .cells #[.int .u64 t142, .int .i64 t143] 56 (0, 0)) (by (with_reducible repeat (first|refine bN_ ?_ _|refine bD_ ?_|refine bA_ ?_ _)); exact BK136.out)) : gb136 ≠ gb145))
          have n12_:=K_ ((by rw [hg]; exact Nat.ne_of_gt (blk_lt (g := gb136) (o := .cells #[.int .u64 t142, .int .i64 t143] 56 (0, 0)) (by (with_reducible repeat (first|refine bN_ ?_ _|refine bD_ ?_|refine bA_ ?_ _)); exact BK136.out)) : gb145 ≠ gb136))
          clear BK134
          clear BK135
          clear BK136
          clear HB
          have BK134:=n0_
          have BK135:=n1_
          have BK136:=n2_
          have HB:=n3_
          have BK145:=n4_
          have GW145:=n5_
          have GE145:=n6_
          have NB134_145:=n7_
          have NB145_134:=n8_
          have NB135_145:=n9_
          have NB145_135:=n10_
          have NB136_145:=n11_
          have NB145_136:=n12_
          clear n0_ n1_ n2_ n3_ n4_ n5_ n6_ n7_ n8_ n9_ n10_ n11_ n12_
          clear hb hbox hg
          refine hK.out _ _ ⟨(blk_cell BK134.out 0).trans rfl, (blk_cell BK134.out 1).trans rfl, (blk_cell BK135.out 0).trans rfl, (blk_cell BK135.out 1).trans rfl, (blk_cell BK136.out 0).trans rfl, (blk_cell BK136.out 1).trans rfl⟩ (fun hHeld => ?_)
          clear hK K
          refine norm_ (a' := ?_) ?_ ?_
          rotate_left
          ·
           show Act.put _ (some 8) _ = _
           simp only [Act.put, e1_, e2_, e3_, i64_w, i32_w]
           rfl
          exact norm_ (by first|(simp only [putAll, Act.put, List.setIfInBounds_toArray, List.set_cons_zero, List.set_cons_succ]; done)|(simp only [putAll, Act.put, List.setIfInBounds_toArray, List.set_cons_zero, List.set_cons_succ]; rfl)) (hJ4 (gb145) _ ⟨hHeld, (by (with_reducible repeat (first|refine bN_ ?_ _|refine bD_ ?_|refine bA_ ?_ _)); exact BK134.out), (by (with_reducible repeat (first|refine bN_ ?_ _|refine bD_ ?_|refine bA_ ?_ _)); exact BK135.out), (by (with_reducible repeat (first|refine bN_ ?_ _|refine bD_ ?_|refine bA_ ?_ _)); exact BK136.out), (by (with_reducible repeat (first|refine bN_ ?_ _|refine bD_ ?_|refine bA_ ?_ _)); exact BK145.out), GW145.out, GE145.out, NB134_145.out, NB145_134.out, NB135_145.out, NB145_135.out, NB136_145.out, NB145_136.out, (by repeat (first|(with_reducible first|exact HB.out|apply pA_|apply pN_|apply pD_|refine bS_ ?_ GE134.out|refine bS_ ?_ GE135.out|refine bS_ ?_ GE136.out|refine bS_ ?_ GE145.out)|exact HB.out))⟩)
         ·
          skip
          refine box_step ?hg (N := 9) ?hd (cs := #[.int .u64 0, .int .i64 0]) (t := 58) ?hr ?_; (case hd => rfl); (case hg => rfl); (case hr => first|(go_simp; done)|(go_simp; rfl))
          intro gb146 hg w27 hbox hb
          have n0_:=K_ (blk_below (g := gb134) (o := .cells #[.int .u64 t138, .int .i64 t139] 56 (0, 0)) (by (with_reducible repeat (first|refine bN_ ?_ _|refine bD_ ?_|refine bA_ ?_ _)); exact BK134.out) hb)
          have n1_:=K_ (blk_below (g := gb135) (o := .cells #[.int .u64 t140, .int .i64 t141] 56 (0, 0)) (by (with_reducible repeat (first|refine bN_ ?_ _|refine bD_ ?_|refine bA_ ?_ _)); exact BK135.out) hb)
          have n2_:=K_ (blk_below (g := gb136) (o := .cells #[.int .u64 t142, .int .i64 t143] 56 (0, 0)) (by (with_reducible repeat (first|refine bN_ ?_ _|refine bD_ ?_|refine bA_ ?_ _)); exact BK136.out) hb)
          have n3_:=K_ (below_step (by repeat (first|(with_reducible first|exact HB.out|apply pA_|apply pN_|apply pD_|refine bS_ ?_ GE134.out|refine bS_ ?_ GE135.out|refine bS_ ?_ GE136.out)|exact HB.out)) hb)
          have n4_:=K_ (hbox)
          have n5_:=K_ ((by rw [hg]; exact (below_size (by repeat (first|(with_reducible first|exact HB.out|apply pA_|apply pN_|apply pD_|refine bS_ ?_ GE134.out|refine bS_ ?_ GE135.out|refine bS_ ?_ GE136.out)|exact HB.out))) : w.heap.size ≤ gb146))
          have n6_:=K_ ((by rw [hg]; exact (below_size (by repeat (first|(with_reducible first|exact HB.out|apply pA_|apply pN_|apply pD_|refine bS_ ?_ GE134.out|refine bS_ ?_ GE135.out|refine bS_ ?_ GE136.out)|exact HB.out))) : w.heap.size ≤ gb146))
          have n7_:=K_ ((by rw [hg]; exact Nat.ne_of_lt (blk_lt (g := gb134) (o := .cells #[.int .u64 t138, .int .i64 t139] 56 (0, 0)) (by (with_reducible repeat (first|refine bN_ ?_ _|refine bD_ ?_|refine bA_ ?_ _)); exact BK134.out)) : gb134 ≠ gb146))
          have n8_:=K_ ((by rw [hg]; exact Nat.ne_of_gt (blk_lt (g := gb134) (o := .cells #[.int .u64 t138, .int .i64 t139] 56 (0, 0)) (by (with_reducible repeat (first|refine bN_ ?_ _|refine bD_ ?_|refine bA_ ?_ _)); exact BK134.out)) : gb146 ≠ gb134))
          have n9_:=K_ ((by rw [hg]; exact Nat.ne_of_lt (blk_lt (g := gb135) (o := .cells #[.int .u64 t140, .int .i64 t141] 56 (0, 0)) (by (with_reducible repeat (first|refine bN_ ?_ _|refine bD_ ?_|refine bA_ ?_ _)); exact BK135.out)) : gb135 ≠ gb146))
          have n10_:=K_ ((by rw [hg]; exact Nat.ne_of_gt (blk_lt (g := gb135) (o := .cells #[.int .u64 t140, .int .i64 t141] 56 (0, 0)) (by (with_reducible repeat (first|refine bN_ ?_ _|refine bD_ ?_|refine bA_ ?_ _)); exact BK135.out)) : gb146 ≠ gb135))
          have n11_:=K_ ((by rw [hg]; exact Nat.ne_of_lt (blk_lt (g := gb136) (o := .cells #[.int .u64 t142, .int .i64 t143] 56 (0, 0)) (by (with_reducible repeat (first|refine bN_ ?_ _|refine bD_ ?_|refine bA_ ?_ _)); exact BK136.out)) : gb136 ≠ gb146))
          have n12_:=K_ ((by rw [hg]; exact Nat.ne_of_gt (blk_lt (g := gb136) (o := .cells #[.int .u64 t142, .int .i64 t143] 56 (0, 0)) (by (with_reducible repeat (first|refine bN_ ?_ _|refine bD_ ?_|refine bA_ ?_ _)); exact BK136.out)) : gb146 ≠ gb136))
          clear BK134
          clear BK135
          clear BK136
          clear HB
          have BK134:=n0_
          have BK135:=n1_
          have BK136:=n2_
          have HB:=n3_
          have BK146:=n4_
          have GW146:=n5_
          have GE146:=n6_
          have NB134_146:=n7_
          have NB146_134:=n8_
          have NB135_146:=n9_
          have NB146_135:=n10_
          have NB136_146:=n11_
          have NB146_136:=n12_
          clear n0_ n1_ n2_ n3_ n4_ n5_ n6_ n7_ n8_ n9_ n10_ n11_ n12_
          clear hb hbox hg
          refine hK.out _ _ ⟨(blk_cell BK134.out 0).trans rfl, (blk_cell BK134.out 1).trans rfl, (blk_cell BK135.out 0).trans rfl, (blk_cell BK135.out 1).trans rfl, (blk_cell BK136.out 0).trans rfl, (blk_cell BK136.out 1).trans rfl⟩ (fun hHeld => ?_)
          clear hK K
          refine norm_ (a' := ?_) ?_ ?_
          rotate_left
          ·
           show Act.put _ (some 9) _ = _
           simp only [Act.put, e1_, e2_, e3_, i64_w, i32_w]
           rfl
          exact norm_ (by first|(simp only [putAll, Act.put, List.setIfInBounds_toArray, List.set_cons_zero, List.set_cons_succ]; done)|(simp only [putAll, Act.put, List.setIfInBounds_toArray, List.set_cons_zero, List.set_cons_succ]; rfl)) (hJ5 (gb146) _ ⟨hHeld, (by (with_reducible repeat (first|refine bN_ ?_ _|refine bD_ ?_|refine bA_ ?_ _)); exact BK134.out), (by (with_reducible repeat (first|refine bN_ ?_ _|refine bD_ ?_|refine bA_ ?_ _)); exact BK135.out), (by (with_reducible repeat (first|refine bN_ ?_ _|refine bD_ ?_|refine bA_ ?_ _)); exact BK136.out), (by (with_reducible repeat (first|refine bN_ ?_ _|refine bD_ ?_|refine bA_ ?_ _)); exact BK146.out), GW146.out, GE146.out, NB134_146.out, NB146_134.out, NB135_146.out, NB146_135.out, NB136_146.out, NB146_136.out, (by repeat (first|(with_reducible first|exact HB.out|apply pA_|apply pN_|apply pD_|refine bS_ ?_ GE134.out|refine bS_ ?_ GE135.out|refine bS_ ?_ GE136.out|refine bS_ ?_ GE146.out)|exact HB.out))⟩)
        ·
         skip
         rintro gb146 w28 ⟨hS_, h0_, h1_, h2_, h3_, h4_, h5_, h6_, h7_, h8_, h9_, h10_, h11_, h12_⟩
         have n0_ : Aside0 (w28.heap[gb134]? = some (.cells #[.int .u64 t138, .int .i64 t139] 56 (0, 0))) := ⟨h0_⟩
         have n1_ : Aside0 (w28.heap[gb135]? = some (.cells #[.int .u64 t140, .int .i64 t141] 56 (0, 0))) := ⟨h1_⟩
         have n2_ : Aside0 (w28.heap[gb136]? = some (.cells #[.int .u64 t142, .int .i64 t143] 56 (0, 0))) := ⟨h2_⟩
         have n3_ : Aside0 (w28.heap[gb146]? = some (.cells #[.int .u64 0, .int .i64 0] 58 (0, 0))) := ⟨h3_⟩
         have n4_ : Aside0 (w.heap.size ≤ gb146) := ⟨h4_⟩
         have n5_ : Aside0 (w.heap.size ≤ gb146) := ⟨h5_⟩
         have n6_ : Aside0 (gb134 ≠ gb146) := ⟨h6_⟩
         have n7_ : Aside0 (gb146 ≠ gb134) := ⟨h7_⟩
         have n8_ : Aside0 (gb135 ≠ gb146) := ⟨h8_⟩
         have n9_ : Aside0 (gb146 ≠ gb135) := ⟨h9_⟩
         have n10_ : Aside0 (gb136 ≠ gb146) := ⟨h10_⟩
         have n11_ : Aside0 (gb146 ≠ gb136) := ⟨h11_⟩
         have n12_ : Aside0 (Below w.heap.size w w28) := ⟨h12_⟩
         clear BK134
         clear BK135
         clear BK136
         clear HB
         clear h0_ h1_ h2_ h3_ h4_ h5_ h6_ h7_ h8_ h9_ h10_ h11_ h12_
         have BK134:=n0_
         have BK135:=n1_
         have BK136:=n2_
         have BK146:=n3_
         have GW146:=n4_
         have GE146:=n5_
         have NB134_146:=n6_
         have NB146_134:=n7_
         have NB135_146:=n8_
         have NB146_135:=n9_
         have NB136_146:=n10_
         have NB146_136:=n11_
         have HB:=n12_
         clear n0_ n1_ n2_ n3_ n4_ n5_ n6_ n7_ n8_ n9_ n10_ n11_ n12_
         have hHeld : w28.cell? ⟨gb134, 0, none⟩ = some (.int .u64 t138) ∧ w28.cell? ⟨gb134, 1, none⟩ = some (.int .i64 t139) ∧ w28.cell? ⟨gb135, 0, none⟩ = some (.int .u64 t140) ∧ w28.cell? ⟨gb135, 1, none⟩ = some (.int .i64 t141) ∧ w28.cell? ⟨gb136, 0, none⟩ = some (.int .u64 t142) ∧ w28.cell? ⟨gb136, 1, none⟩ = some (.int .i64 t143) := hS_
         refine norm_ (a' := ?_) ?_ ?_
         rotate_left
         ·
          simp only [putAll, Act.put, List.setIfInBounds_toArray, List.set_cons_zero, List.set_cons_succ]
          rfl
         refine two_ (i := 3) (j := 4) (Ni := some 7) (Nj := some 8) qm12 qm13 rfl rfl rfl rfl (two_of HT_.out (by kernel_rfl)) (by decide) (by decide) (fun K hK => ?_) (fun K hK => ?_)
         ·
          skip
          refine box_step ?hg (N := 7) ?hd (cs := #[.int .u64 0, .int .i64 0]) (t := 58) ?hr ?_; (case hd => rfl); (case hg => rfl); (case hr => first|(go_simp; done)|(go_simp; rfl))
          intro gb144 hg w29 hbox hb
          have n0_:=K_ (blk_below (g := gb134) (o := .cells #[.int .u64 t138, .int .i64 t139] 56 (0, 0)) (by (with_reducible repeat (first|refine bN_ ?_ _|refine bD_ ?_|refine bA_ ?_ _)); exact BK134.out) hb)
          have n1_:=K_ (blk_below (g := gb135) (o := .cells #[.int .u64 t140, .int .i64 t141] 56 (0, 0)) (by (with_reducible repeat (first|refine bN_ ?_ _|refine bD_ ?_|refine bA_ ?_ _)); exact BK135.out) hb)
          have n2_:=K_ (blk_below (g := gb136) (o := .cells #[.int .u64 t142, .int .i64 t143] 56 (0, 0)) (by (with_reducible repeat (first|refine bN_ ?_ _|refine bD_ ?_|refine bA_ ?_ _)); exact BK136.out) hb)
          have n3_:=K_ (blk_below (g := gb146) (o := .cells #[.int .u64 0, .int .i64 0] 58 (0, 0)) (by (with_reducible repeat (first|refine bN_ ?_ _|refine bD_ ?_|refine bA_ ?_ _)); exact BK146.out) hb)
          have n4_:=K_ (below_step (by repeat (first|(with_reducible first|exact HB.out|apply pA_|apply pN_|apply pD_|refine bS_ ?_ GE134.out|refine bS_ ?_ GE135.out|refine bS_ ?_ GE136.out|refine bS_ ?_ GE146.out)|exact HB.out)) hb)
          have n5_:=K_ (hbox)
          have n6_:=K_ ((by rw [hg]; exact (below_size (by repeat (first|(with_reducible first|exact HB.out|apply pA_|apply pN_|apply pD_|refine bS_ ?_ GE134.out|refine bS_ ?_ GE135.out|refine bS_ ?_ GE136.out|refine bS_ ?_ GE146.out)|exact HB.out))) : w.heap.size ≤ gb144))
          have n7_:=K_ ((by rw [hg]; exact (below_size (by repeat (first|(with_reducible first|exact HB.out|apply pA_|apply pN_|apply pD_|refine bS_ ?_ GE134.out|refine bS_ ?_ GE135.out|refine bS_ ?_ GE136.out|refine bS_ ?_ GE146.out)|exact HB.out))) : w.heap.size ≤ gb144))
          have n8_:=K_ ((by rw [hg]; exact Nat.ne_of_lt (blk_lt (g := gb134) (o := .cells #[.int .u64 t138, .int .i64 t139] 56 (0, 0)) (by (with_reducible repeat (first|refine bN_ ?_ _|refine bD_ ?_|refine bA_ ?_ _)); exact BK134.out)) : gb134 ≠ gb144))
          have n9_:=K_ ((by rw [hg]; exact Nat.ne_of_gt (blk_lt (g := gb134) (o := .cells #[.int .u64 t138, .int .i64 t139] 56 (0, 0)) (by (with_reducible repeat (first|refine bN_ ?_ _|refine bD_ ?_|refine bA_ ?_ _)); exact BK134.out)) : gb144 ≠ gb134))
          have n10_:=K_ ((by rw [hg]; exact Nat.ne_of_lt (blk_lt (g := gb135) (o := .cells #[.int .u64 t140, .int .i64 t141] 56 (0, 0)) (by (with_reducible repeat (first|refine bN_ ?_ _|refine bD_ ?_|refine bA_ ?_ _)); exact BK135.out)) : gb135 ≠ gb144))
          have n11_:=K_ ((by rw [hg]; exact Nat.ne_of_gt (blk_lt (g := gb135) (o := .cells #[.int .u64 t140, .int .i64 t141] 56 (0, 0)) (by (with_reducible repeat (first|refine bN_ ?_ _|refine bD_ ?_|refine bA_ ?_ _)); exact BK135.out)) : gb144 ≠ gb135))
          have n12_:=K_ ((by rw [hg]; exact Nat.ne_of_lt (blk_lt (g := gb136) (o := .cells #[.int .u64 t142, .int .i64 t143] 56 (0, 0)) (by (with_reducible repeat (first|refine bN_ ?_ _|refine bD_ ?_|refine bA_ ?_ _)); exact BK136.out)) : gb136 ≠ gb144))
          have n13_:=K_ ((by rw [hg]; exact Nat.ne_of_gt (blk_lt (g := gb136) (o := .cells #[.int .u64 t142, .int .i64 t143] 56 (0, 0)) (by (with_reducible repeat (first|refine bN_ ?_ _|refine bD_ ?_|refine bA_ ?_ _)); exact BK136.out)) : gb144 ≠ gb136))
          have n14_:=K_ ((by rw [hg]; exact Nat.ne_of_lt (blk_lt (g := gb146) (o := .cells #[.int .u64 0, .int .i64 0] 58 (0, 0)) (by (with_reducible repeat (first|refine bN_ ?_ _|refine bD_ ?_|refine bA_ ?_ _)); exact BK146.out)) : gb146 ≠ gb144))
          have n15_:=K_ ((by rw [hg]; exact Nat.ne_of_gt (blk_lt (g := gb146) (o := .cells #[.int .u64 0, .int .i64 0] 58 (0, 0)) (by (with_reducible repeat (first|refine bN_ ?_ _|refine bD_ ?_|refine bA_ ?_ _)); exact BK146.out)) : gb144 ≠ gb146))
          clear BK134
          clear BK135
          clear BK136
          clear BK146
          clear HB
          have BK134:=n0_
          have BK135:=n1_
          have BK136:=n2_
          have BK146:=n3_
          have HB:=n4_
          have BK144:=n5_
          have GW144:=n6_
          have GE144:=n7_
          have NB134_144:=n8_
          have NB144_134:=n9_
          have NB135_144:=n10_
          have NB144_135:=n11_
          have NB136_144:=n12_
          have NB144_136:=n13_
          have NB146_144:=n14_
          have NB144_146:=n15_
          clear n0_ n1_ n2_ n3_ n4_ n5_ n6_ n7_ n8_ n9_ n10_ n11_ n12_ n13_ n14_ n15_
          clear hb hbox hg
          refine hK.out _ _ ⟨(blk_cell BK134.out 0).trans rfl, (blk_cell BK134.out 1).trans rfl, (blk_cell BK135.out 0).trans rfl, (blk_cell BK135.out 1).trans rfl, (blk_cell BK136.out 0).trans rfl, (blk_cell BK136.out 1).trans rfl⟩ (fun hHeld => ?_)
          clear hK K
          refine norm_ (a' := ?_) ?_ ?_
          rotate_left
          ·
           show Act.put _ (some 7) _ = _
           simp only [Act.put, e1_, e2_, e3_, i64_w, i32_w]
           rfl
          exact norm_ (by first|(simp only [putAll, Act.put, List.setIfInBounds_toArray, List.set_cons_zero, List.set_cons_succ]; done)|(simp only [putAll, Act.put, List.setIfInBounds_toArray, List.set_cons_zero, List.set_cons_succ]; rfl)) (hJ3_5 (gb144, gb146) _ ⟨hHeld, (by (with_reducible repeat (first|refine bN_ ?_ _|refine bD_ ?_|refine bA_ ?_ _)); exact BK134.out), (by (with_reducible repeat (first|refine bN_ ?_ _|refine bD_ ?_|refine bA_ ?_ _)); exact BK135.out), (by (with_reducible repeat (first|refine bN_ ?_ _|refine bD_ ?_|refine bA_ ?_ _)); exact BK136.out), (by (with_reducible repeat (first|refine bN_ ?_ _|refine bD_ ?_|refine bA_ ?_ _)); exact BK144.out), (by (with_reducible repeat (first|refine bN_ ?_ _|refine bD_ ?_|refine bA_ ?_ _)); exact BK146.out), GW144.out, GE144.out, NB134_144.out, NB144_134.out, NB135_144.out, NB144_135.out, NB136_144.out, NB144_136.out, NB146_144.out, NB144_146.out, GW146.out, GE146.out, NB134_146.out, NB146_134.out, NB135_146.out, NB146_135.out, NB136_146.out, NB146_136.out, (by repeat (first|(with_reducible first|exact HB.out|apply pA_|apply pN_|apply pD_|refine bS_ ?_ GE134.out|refine bS_ ?_ GE135.out|refine bS_ ?_ GE136.out|refine bS_ ?_ GE146.out|refine bS_ ?_ GE144.out)|exact HB.out))⟩)
         ·
          skip
          refine box_step ?hg (N := 8) ?hd (cs := #[.int .u64 0, .int .i64 0]) (t := 58) ?hr ?_; (case hd => rfl); (case hg => rfl); (case hr => first|(go_simp; done)|(go_simp; rfl))
          intro gb145 hg w29 hbox hb
          have n0_:=K_ (blk_below (g := gb134) (o := .cells #[.int .u64 t138, .int .i64 t139] 56 (0, 0)) (by (with_reducible repeat (first|refine bN_ ?_ _|refine bD_ ?_|refine bA_ ?_ _)); exact BK134.out) hb)
          have n1_:=K_ (blk_below (g := gb135) (o := .cells #[.int .u64 t140, .int .i64 t141] 56 (0, 0)) (by (with_reducible repeat (first|refine bN_ ?_ _|refine bD_ ?_|refine bA_ ?_ _)); exact BK135.out) hb)
          have n2_:=K_ (blk_below (g := gb136) (o := .cells #[.int .u64 t142, .int .i64 t143] 56 (0, 0)) (by (with_reducible repeat (first|refine bN_ ?_ _|refine bD_ ?_|refine bA_ ?_ _)); exact BK136.out) hb)
          have n3_:=K_ (blk_below (g := gb146) (o := .cells #[.int .u64 0, .int .i64 0] 58 (0, 0)) (by (with_reducible repeat (first|refine bN_ ?_ _|refine bD_ ?_|refine bA_ ?_ _)); exact BK146.out) hb)
          have n4_:=K_ (below_step (by repeat (first|(with_reducible first|exact HB.out|apply pA_|apply pN_|apply pD_|refine bS_ ?_ GE134.out|refine bS_ ?_ GE135.out|refine bS_ ?_ GE136.out|refine bS_ ?_ GE146.out)|exact HB.out)) hb)
          have n5_:=K_ (hbox)
          have n6_:=K_ ((by rw [hg]; exact (below_size (by repeat (first|(with_reducible first|exact HB.out|apply pA_|apply pN_|apply pD_|refine bS_ ?_ GE134.out|refine bS_ ?_ GE135.out|refine bS_ ?_ GE136.out|refine bS_ ?_ GE146.out)|exact HB.out))) : w.heap.size ≤ gb145))
          have n7_:=K_ ((by rw [hg]; exact (below_size (by repeat (first|(with_reducible first|exact HB.out|apply pA_|apply pN_|apply pD_|refine bS_ ?_ GE134.out|refine bS_ ?_ GE135.out|refine bS_ ?_ GE136.out|refine bS_ ?_ GE146.out)|exact HB.out))) : w.heap.size ≤ gb145))
          have n8_:=K_ ((by rw [hg]; exact Nat.ne_of_lt (blk_lt (g := gb134) (o := .cells #[.int .u64 t138, .int .i64 t139] 56 (0, 0)) (by (with_reducible repeat (first|refine bN_ ?_ _|refine bD_ ?_|refine bA_ ?_ _)); exact BK134.out)) : gb134 ≠ gb145))
          have n9_:=K_ ((by rw [hg]; exact Nat.ne_of_gt (blk_lt (g := gb134) (o := .cells #[.int .u64 t138, .int .i64 t139] 56 (0, 0)) (by (with_reducible repeat (first|refine bN_ ?_ _|refine bD_ ?_|refine bA_ ?_ _)); exact BK134.out)) : gb145 ≠ gb134))
          have n10_:=K_ ((by rw [hg]; exact Nat.ne_of_lt (blk_lt (g := gb135) (o := .cells #[.int .u64 t140, .int .i64 t141] 56 (0, 0)) (by (with_reducible repeat (first|refine bN_ ?_ _|refine bD_ ?_|refine bA_ ?_ _)); exact BK135.out)) : gb135 ≠ gb145))
          have n11_:=K_ ((by rw [hg]; exact Nat.ne_of_gt (blk_lt (g := gb135) (o := .cells #[.int .u64 t140, .int .i64 t141] 56 (0, 0)) (by (with_reducible repeat (first|refine bN_ ?_ _|refine bD_ ?_|refine bA_ ?_ _)); exact BK135.out)) : gb145 ≠ gb135))
          have n12_:=K_ ((by rw [hg]; exact Nat.ne_of_lt (blk_lt (g := gb136) (o := .cells #[.int .u64 t142, .int .i64 t143] 56 (0, 0)) (by (with_reducible repeat (first|refine bN_ ?_ _|refine bD_ ?_|refine bA_ ?_ _)); exact BK136.out)) : gb136 ≠ gb145))
          have n13_:=K_ ((by rw [hg]; exact Nat.ne_of_gt (blk_lt (g := gb136) (o := .cells #[.int .u64 t142, .int .i64 t143] 56 (0, 0)) (by (with_reducible repeat (first|refine bN_ ?_ _|refine bD_ ?_|refine bA_ ?_ _)); exact BK136.out)) : gb145 ≠ gb136))
          have n14_:=K_ ((by rw [hg]; exact Nat.ne_of_lt (blk_lt (g := gb146) (o := .cells #[.int .u64 0, .int .i64 0] 58 (0, 0)) (by (with_reducible repeat (first|refine bN_ ?_ _|refine bD_ ?_|refine bA_ ?_ _)); exact BK146.out)) : gb146 ≠ gb145))
          have n15_:=K_ ((by rw [hg]; exact Nat.ne_of_gt (blk_lt (g := gb146) (o := .cells #[.int .u64 0, .int .i64 0] 58 (0, 0)) (by (with_reducible repeat (first|refine bN_ ?_ _|refine bD_ ?_|refine bA_ ?_ _)); exact BK146.out)) : gb145 ≠ gb146))
          clear BK134
          clear BK135
          clear BK136
          clear BK146
          clear HB
          have BK134:=n0_
          have BK135:=n1_
          have BK136:=n2_
          have BK146:=n3_
          have HB:=n4_
          have BK145:=n5_
          have GW145:=n6_
          have GE145:=n7_
          have NB134_145:=n8_
          have NB145_134:=n9_
          have NB135_145:=n10_
          have NB145_135:=n11_
          have NB136_145:=n12_
          have NB145_136:=n13_
          have NB146_145:=n14_
          have NB145_146:=n15_
          clear n0_ n1_ n2_ n3_ n4_ n5_ n6_ n7_ n8_ n9_ n10_ n11_ n12_ n13_ n14_ n15_
          clear hb hbox hg
          refine hK.out _ _ ⟨(blk_cell BK134.out 0).trans rfl, (blk_cell BK134.out 1).trans rfl, (blk_cell BK135.out 0).trans rfl, (blk_cell BK135.out 1).trans rfl, (blk_cell BK136.out 0).trans rfl, (blk_cell BK136.out 1).trans rfl⟩ (fun hHeld => ?_)
          clear hK K
          refine norm_ (a' := ?_) ?_ ?_
          rotate_left
          ·
           show Act.put _ (some 8) _ = _
           simp only [Act.put, e1_, e2_, e3_, i64_w, i32_w]
           rfl
          exact norm_ (by first|(simp only [putAll, Act.put, List.setIfInBounds_toArray, List.set_cons_zero, List.set_cons_succ]; done)|(simp only [putAll, Act.put, List.setIfInBounds_toArray, List.set_cons_zero, List.set_cons_succ]; rfl)) (hJ4_5 (gb145, gb146) _ ⟨hHeld, (by (with_reducible repeat (first|refine bN_ ?_ _|refine bD_ ?_|refine bA_ ?_ _)); exact BK134.out), (by (with_reducible repeat (first|refine bN_ ?_ _|refine bD_ ?_|refine bA_ ?_ _)); exact BK135.out), (by (with_reducible repeat (first|refine bN_ ?_ _|refine bD_ ?_|refine bA_ ?_ _)); exact BK136.out), (by (with_reducible repeat (first|refine bN_ ?_ _|refine bD_ ?_|refine bA_ ?_ _)); exact BK145.out), (by (with_reducible repeat (first|refine bN_ ?_ _|refine bD_ ?_|refine bA_ ?_ _)); exact BK146.out), GW145.out, GE145.out, NB134_145.out, NB145_134.out, NB135_145.out, NB145_135.out, NB136_145.out, NB145_136.out, NB146_145.out, NB145_146.out, GW146.out, GE146.out, NB134_146.out, NB146_134.out, NB135_146.out, NB146_135.out, NB136_146.out, NB146_136.out, (by repeat (first|(with_reducible first|exact HB.out|apply pA_|apply pN_|apply pD_|refine bS_ ?_ GE134.out|refine bS_ ?_ GE135.out|refine bS_ ?_ GE136.out|refine bS_ ?_ GE146.out|refine bS_ ?_ GE145.out)|exact HB.out))⟩)
       ·
        skip
        rintro gb145 w28 ⟨hS_, h0_, h1_, h2_, h3_, h4_, h5_, h6_, h7_, h8_, h9_, h10_, h11_, h12_⟩
        have n0_ : Aside0 (w28.heap[gb134]? = some (.cells #[.int .u64 t138, .int .i64 t139] 56 (0, 0))) := ⟨h0_⟩
        have n1_ : Aside0 (w28.heap[gb135]? = some (.cells #[.int .u64 t140, .int .i64 t141] 56 (0, 0))) := ⟨h1_⟩
        have n2_ : Aside0 (w28.heap[gb136]? = some (.cells #[.int .u64 t142, .int .i64 t143] 56 (0, 0))) := ⟨h2_⟩
        have n3_ : Aside0 (w28.heap[gb145]? = some (.cells #[.int .u64 0, .int .i64 0] 58 (0, 0))) := ⟨h3_⟩
        have n4_ : Aside0 (w.heap.size ≤ gb145) := ⟨h4_⟩
        have n5_ : Aside0 (w.heap.size ≤ gb145) := ⟨h5_⟩
        have n6_ : Aside0 (gb134 ≠ gb145) := ⟨h6_⟩
        have n7_ : Aside0 (gb145 ≠ gb134) := ⟨h7_⟩
        have n8_ : Aside0 (gb135 ≠ gb145) := ⟨h8_⟩
        have n9_ : Aside0 (gb145 ≠ gb135) := ⟨h9_⟩
        have n10_ : Aside0 (gb136 ≠ gb145) := ⟨h10_⟩
        have n11_ : Aside0 (gb145 ≠ gb136) := ⟨h11_⟩
        have n12_ : Aside0 (Below w.heap.size w w28) := ⟨h12_⟩
        clear BK134
        clear BK135
        clear BK136
        clear HB
        clear h0_ h1_ h2_ h3_ h4_ h5_ h6_ h7_ h8_ h9_ h10_ h11_ h12_
        have BK134:=n0_
        have BK135:=n1_
        have BK136:=n2_
        have BK145:=n3_
        have GW145:=n4_
        have GE145:=n5_
        have NB134_145:=n6_
        have NB145_134:=n7_
        have NB135_145:=n8_
        have NB145_135:=n9_
        have NB136_145:=n10_
        have NB145_136:=n11_
        have HB:=n12_
        clear n0_ n1_ n2_ n3_ n4_ n5_ n6_ n7_ n8_ n9_ n10_ n11_ n12_
        have hHeld : w28.cell? ⟨gb134, 0, none⟩ = some (.int .u64 t138) ∧ w28.cell? ⟨gb134, 1, none⟩ = some (.int .i64 t139) ∧ w28.cell? ⟨gb135, 0, none⟩ = some (.int .u64 t140) ∧ w28.cell? ⟨gb135, 1, none⟩ = some (.int .i64 t141) ∧ w28.cell? ⟨gb136, 0, none⟩ = some (.int .u64 t142) ∧ w28.cell? ⟨gb136, 1, none⟩ = some (.int .i64 t143) := hS_
        refine norm_ (a' := ?_) ?_ ?_
        rotate_left
        ·
         simp only [putAll, Act.put, List.setIfInBounds_toArray, List.set_cons_zero, List.set_cons_succ]
         rfl
        refine two_ (i := 3) (j := 5) (Ni := some 7) (Nj := some 9) qm5 qm13 rfl rfl rfl rfl (two_of HT_.out (by kernel_rfl)) (by decide) (by decide) (fun K hK => ?_) (fun K hK => ?_)
        ·
         skip
         refine box_step ?hg (N := 7) ?hd (cs := #[.int .u64 0, .int .i64 0]) (t := 58) ?hr ?_; (case hd => rfl); (case hg => rfl); (case hr => first|(go_simp; done)|(go_simp; rfl))
         intro gb144 hg w29 hbox hb
         have n0_:=K_ (blk_below (g := gb134) (o := .cells #[.int .u64 t138, .int .i64 t139] 56 (0, 0)) (by (with_reducible repeat (first|refine bN_ ?_ _|refine bD_ ?_|refine bA_ ?_ _)); exact BK134.out) hb)
         have n1_:=K_ (blk_below (g := gb135) (o := .cells #[.int .u64 t140, .int .i64 t141] 56 (0, 0)) (by (with_reducible repeat (first|refine bN_ ?_ _|refine bD_ ?_|refine bA_ ?_ _)); exact BK135.out) hb)
         have n2_:=K_ (blk_below (g := gb136) (o := .cells #[.int .u64 t142, .int .i64 t143] 56 (0, 0)) (by (with_reducible repeat (first|refine bN_ ?_ _|refine bD_ ?_|refine bA_ ?_ _)); exact BK136.out) hb)
         have n3_:=K_ (blk_below (g := gb145) (o := .cells #[.int .u64 0, .int .i64 0] 58 (0, 0)) (by (with_reducible repeat (first|refine bN_ ?_ _|refine bD_ ?_|refine bA_ ?_ _)); exact BK145.out) hb)
         have n4_:=K_ (below_step (by repeat (first|(with_reducible first|exact HB.out|apply pA_|apply pN_|apply pD_|refine bS_ ?_ GE134.out|refine bS_ ?_ GE135.out|refine bS_ ?_ GE136.out|refine bS_ ?_ GE145.out)|exact HB.out)) hb)
         have n5_:=K_ (hbox)
         have n6_:=K_ ((by rw [hg]; exact (below_size (by repeat (first|(with_reducible first|exact HB.out|apply pA_|apply pN_|apply pD_|refine bS_ ?_ GE134.out|refine bS_ ?_ GE135.out|refine bS_ ?_ GE136.out|refine bS_ ?_ GE145.out)|exact HB.out))) : w.heap.size ≤ gb144))
         have n7_:=K_ ((by rw [hg]; exact (below_size (by repeat (first|(with_reducible first|exact HB.out|apply pA_|apply pN_|apply pD_|refine bS_ ?_ GE134.out|refine bS_ ?_ GE135.out|refine bS_ ?_ GE136.out|refine bS_ ?_ GE145.out)|exact HB.out))) : w.heap.size ≤ gb144))
         have n8_:=K_ ((by rw [hg]; exact Nat.ne_of_lt (blk_lt (g := gb134) (o := .cells #[.int .u64 t138, .int .i64 t139] 56 (0, 0)) (by (with_reducible repeat (first|refine bN_ ?_ _|refine bD_ ?_|refine bA_ ?_ _)); exact BK134.out)) : gb134 ≠ gb144))
         have n9_:=K_ ((by rw [hg]; exact Nat.ne_of_gt (blk_lt (g := gb134) (o := .cells #[.int .u64 t138, .int .i64 t139] 56 (0, 0)) (by (with_reducible repeat (first|refine bN_ ?_ _|refine bD_ ?_|refine bA_ ?_ _)); exact BK134.out)) : gb144 ≠ gb134))
         have n10_:=K_ ((by rw [hg]; exact Nat.ne_of_lt (blk_lt (g := gb135) (o := .cells #[.int .u64 t140, .int .i64 t141] 56 (0, 0)) (by (with_reducible repeat (first|refine bN_ ?_ _|refine bD_ ?_|refine bA_ ?_ _)); exact BK135.out)) : gb135 ≠ gb144))
         have n11_:=K_ ((by rw [hg]; exact Nat.ne_of_gt (blk_lt (g := gb135) (o := .cells #[.int .u64 t140, .int .i64 t141] 56 (0, 0)) (by (with_reducible repeat (first|refine bN_ ?_ _|refine bD_ ?_|refine bA_ ?_ _)); exact BK135.out)) : gb144 ≠ gb135))
         have n12_:=K_ ((by rw [hg]; exact Nat.ne_of_lt (blk_lt (g := gb136) (o := .cells #[.int .u64 t142, .int .i64 t143] 56 (0, 0)) (by (with_reducible repeat (first|refine bN_ ?_ _|refine bD_ ?_|refine bA_ ?_ _)); exact BK136.out)) : gb136 ≠ gb144))
         have n13_:=K_ ((by rw [hg]; exact Nat.ne_of_gt (blk_lt (g := gb136) (o := .cells #[.int .u64 t142, .int .i64 t143] 56 (0, 0)) (by (with_reducible repeat (first|refine bN_ ?_ _|refine bD_ ?_|refine bA_ ?_ _)); exact BK136.out)) : gb144 ≠ gb136))
         have n14_:=K_ ((by rw [hg]; exact Nat.ne_of_lt (blk_lt (g := gb145) (o := .cells #[.int .u64 0, .int .i64 0] 58 (0, 0)) (by (with_reducible repeat (first|refine bN_ ?_ _|refine bD_ ?_|refine bA_ ?_ _)); exact BK145.out)) : gb145 ≠ gb144))
         have n15_:=K_ ((by rw [hg]; exact Nat.ne_of_gt (blk_lt (g := gb145) (o := .cells #[.int .u64 0, .int .i64 0] 58 (0, 0)) (by (with_reducible repeat (first|refine bN_ ?_ _|refine bD_ ?_|refine bA_ ?_ _)); exact BK145.out)) : gb144 ≠ gb145))
         clear BK134
         clear BK135
         clear BK136
         clear BK145
         clear HB
         have BK134:=n0_
         have BK135:=n1_
         have BK136:=n2_
         have BK145:=n3_
         have HB:=n4_
         have BK144:=n5_
         have GW144:=n6_
         have GE144:=n7_
         have NB134_144:=n8_
         have NB144_134:=n9_
         have NB135_144:=n10_
         have NB144_135:=n11_
         have NB136_144:=n12_
         have NB144_136:=n13_
         have NB145_144:=n14_
         have NB144_145:=n15_
         clear n0_ n1_ n2_ n3_ n4_ n5_ n6_ n7_ n8_ n9_ n10_ n11_ n12_ n13_ n14_ n15_
         clear hb hbox hg
         refine hK.out _ _ ⟨(blk_cell BK134.out 0).trans rfl, (blk_cell BK134.out 1).trans rfl, (blk_cell BK135.out 0).trans rfl, (blk_cell BK135.out 1).trans rfl, (blk_cell BK136.out 0).trans rfl, (blk_cell BK136.out 1).trans rfl⟩ (fun hHeld => ?_)
         clear hK K
         refine norm_ (a' := ?_) ?_ ?_
         rotate_left
         ·
          show Act.put _ (some 7) _ = _
          simp only [Act.put, e1_, e2_, e3_, i64_w, i32_w]
          rfl
         exact norm_ (by first|(simp only [putAll, Act.put, List.setIfInBounds_toArray, List.set_cons_zero, List.set_cons_succ]; done)|(simp only [putAll, Act.put, List.setIfInBounds_toArray, List.set_cons_zero, List.set_cons_succ]; rfl)) (hJ3_4 (gb144, gb145) _ ⟨hHeld, (by (with_reducible repeat (first|refine bN_ ?_ _|refine bD_ ?_|refine bA_ ?_ _)); exact BK134.out), (by (with_reducible repeat (first|refine bN_ ?_ _|refine bD_ ?_|refine bA_ ?_ _)); exact BK135.out), (by (with_reducible repeat (first|refine bN_ ?_ _|refine bD_ ?_|refine bA_ ?_ _)); exact BK136.out), (by (with_reducible repeat (first|refine bN_ ?_ _|refine bD_ ?_|refine bA_ ?_ _)); exact BK144.out), (by (with_reducible repeat (first|refine bN_ ?_ _|refine bD_ ?_|refine bA_ ?_ _)); exact BK145.out), GW144.out, GE144.out, NB134_144.out, NB144_134.out, NB135_144.out, NB144_135.out, NB136_144.out, NB144_136.out, NB145_144.out, NB144_145.out, GW145.out, GE145.out, NB134_145.out, NB145_134.out, NB135_145.out, NB145_135.out, NB136_145.out, NB145_136.out, (by repeat (first|(with_reducible first|exact HB.out|apply pA_|apply pN_|apply pD_|refine bS_ ?_ GE134.out|refine bS_ ?_ GE135.out|refine bS_ ?_ GE136.out|refine bS_ ?_ GE145.out|refine bS_ ?_ GE144.out)|exact HB.out))⟩)
        ·
         skip
         refine box_step ?hg (N := 9) ?hd (cs := #[.int .u64 0, .int .i64 0]) (t := 58) ?hr ?_; (case hd => rfl); (case hg => rfl); (case hr => first|(go_simp; done)|(go_simp; rfl))
         intro gb146 hg w29 hbox hb
         have n0_:=K_ (blk_below (g := gb134) (o := .cells #[.int .u64 t138, .int .i64 t139] 56 (0, 0)) (by (with_reducible repeat (first|refine bN_ ?_ _|refine bD_ ?_|refine bA_ ?_ _)); exact BK134.out) hb)
         have n1_:=K_ (blk_below (g := gb135) (o := .cells #[.int .u64 t140, .int .i64 t141] 56 (0, 0)) (by (with_reducible repeat (first|refine bN_ ?_ _|refine bD_ ?_|refine bA_ ?_ _)); exact BK135.out) hb)
         have n2_:=K_ (blk_below (g := gb136) (o := .cells #[.int .u64 t142, .int .i64 t143] 56 (0, 0)) (by (with_reducible repeat (first|refine bN_ ?_ _|refine bD_ ?_|refine bA_ ?_ _)); exact BK136.out) hb)
         have n3_:=K_ (blk_below (g := gb145) (o := .cells #[.int .u64 0, .int .i64 0] 58 (0, 0)) (by (with_reducible repeat (first|refine bN_ ?_ _|refine bD_ ?_|refine bA_ ?_ _)); exact BK145.out) hb)
         have n4_:=K_ (below_step (by repeat (first|(with_reducible first|exact HB.out|apply pA_|apply pN_|apply pD_|refine bS_ ?_ GE134.out|refine bS_ ?_ GE135.out|refine bS_ ?_ GE136.out|refine bS_ ?_ GE145.out)|exact HB.out)) hb)
         have n5_:=K_ (hbox)
         have n6_:=K_ ((by rw [hg]; exact (below_size (by repeat (first|(with_reducible first|exact HB.out|apply pA_|apply pN_|apply pD_|refine bS_ ?_ GE134.out|refine bS_ ?_ GE135.out|refine bS_ ?_ GE136.out|refine bS_ ?_ GE145.out)|exact HB.out))) : w.heap.size ≤ gb146))
         have n7_:=K_ ((by rw [hg]; exact (below_size (by repeat (first|(with_reducible first|exact HB.out|apply pA_|apply pN_|apply pD_|refine bS_ ?_ GE134.out|refine bS_ ?_ GE135.out|refine bS_ ?_ GE136.out|refine bS_ ?_ GE145.out)|exact HB.out))) : w.heap.size ≤ gb146))
         have n8_:=K_ ((by rw [hg]; exact Nat.ne_of_lt (blk_lt (g := gb134) (o := .cells #[.int .u64 t138, .int .i64 t139] 56 (0, 0)) (by (with_reducible repeat (first|refine bN_ ?_ _|refine bD_ ?_|refine bA_ ?_ _)); exact BK134.out)) : gb134 ≠ gb146))
         have n9_:=K_ ((by rw [hg]; exact Nat.ne_of_gt (blk_lt (g := gb134) (o := .cells #[.int .u64 t138, .int .i64 t139] 56 (0, 0)) (by (with_reducible repeat (first|refine bN_ ?_ _|refine bD_ ?_|refine bA_ ?_ _)); exact BK134.out)) : gb146 ≠ gb134))
         have n10_:=K_ ((by rw [hg]; exact Nat.ne_of_lt (blk_lt (g := gb135) (o := .cells #[.int .u64 t140, .int .i64 t141] 56 (0, 0)) (by (with_reducible repeat (first|refine bN_ ?_ _|refine bD_ ?_|refine bA_ ?_ _)); exact BK135.out)) : gb135 ≠ gb146))
         have n11_:=K_ ((by rw [hg]; exact Nat.ne_of_gt (blk_lt (g := gb135) (o := .cells #[.int .u64 t140, .int .i64 t141] 56 (0, 0)) (by (with_reducible repeat (first|refine bN_ ?_ _|refine bD_ ?_|refine bA_ ?_ _)); exact BK135.out)) : gb146 ≠ gb135))
         have n12_:=K_ ((by rw [hg]; exact Nat.ne_of_lt (blk_lt (g := gb136) (o := .cells #[.int .u64 t142, .int .i64 t143] 56 (0, 0)) (by (with_reducible repeat (first|refine bN_ ?_ _|refine bD_ ?_|refine bA_ ?_ _)); exact BK136.out)) : gb136 ≠ gb146))
         have n13_:=K_ ((by rw [hg]; exact Nat.ne_of_gt (blk_lt (g := gb136) (o := .cells #[.int .u64 t142, .int .i64 t143] 56 (0, 0)) (by (with_reducible repeat (first|refine bN_ ?_ _|refine bD_ ?_|refine bA_ ?_ _)); exact BK136.out)) : gb146 ≠ gb136))
         have n14_:=K_ ((by rw [hg]; exact Nat.ne_of_lt (blk_lt (g := gb145) (o := .cells #[.int .u64 0, .int .i64 0] 58 (0, 0)) (by (with_reducible repeat (first|refine bN_ ?_ _|refine bD_ ?_|refine bA_ ?_ _)); exact BK145.out)) : gb145 ≠ gb146))
         have n15_:=K_ ((by rw [hg]; exact Nat.ne_of_gt (blk_lt (g := gb145) (o := .cells #[.int .u64 0, .int .i64 0] 58 (0, 0)) (by (with_reducible repeat (first|refine bN_ ?_ _|refine bD_ ?_|refine bA_ ?_ _)); exact BK145.out)) : gb146 ≠ gb145))
         clear BK134
         clear BK135
         clear BK136
         clear BK145
         clear HB
         have BK134:=n0_
         have BK135:=n1_
         have BK136:=n2_
         have BK145:=n3_
         have HB:=n4_
         have BK146:=n5_
         have GW146:=n6_
         have GE146:=n7_
         have NB134_146:=n8_
         have NB146_134:=n9_
         have NB135_146:=n10_
         have NB146_135:=n11_
         have NB136_146:=n12_
         have NB146_136:=n13_
         have NB145_146:=n14_
         have NB146_145:=n15_
         clear n0_ n1_ n2_ n3_ n4_ n5_ n6_ n7_ n8_ n9_ n10_ n11_ n12_ n13_ n14_ n15_
         clear hb hbox hg
         refine hK.out _ _ ⟨(blk_cell BK134.out 0).trans rfl, (blk_cell BK134.out 1).trans rfl, (blk_cell BK135.out 0).trans rfl, (blk_cell BK135.out 1).trans rfl, (blk_cell BK136.out 0).trans rfl, (blk_cell BK136.out 1).trans rfl⟩ (fun hHeld => ?_)
         clear hK K
         refine norm_ (a' := ?_) ?_ ?_
         rotate_left
         ·
          show Act.put _ (some 9) _ = _
          simp only [Act.put, e1_, e2_, e3_, i64_w, i32_w]
          rfl
         exact norm_ (by first|(simp only [putAll, Act.put, List.setIfInBounds_toArray, List.set_cons_zero, List.set_cons_succ]; done)|(simp only [putAll, Act.put, List.setIfInBounds_toArray, List.set_cons_zero, List.set_cons_succ]; rfl)) (hJ4_5 (gb145, gb146) _ ⟨hHeld, (by (with_reducible repeat (first|refine bN_ ?_ _|refine bD_ ?_|refine bA_ ?_ _)); exact BK134.out), (by (with_reducible repeat (first|refine bN_ ?_ _|refine bD_ ?_|refine bA_ ?_ _)); exact BK135.out), (by (with_reducible repeat (first|refine bN_ ?_ _|refine bD_ ?_|refine bA_ ?_ _)); exact BK136.out), (by (with_reducible repeat (first|refine bN_ ?_ _|refine bD_ ?_|refine bA_ ?_ _)); exact BK145.out), (by (with_reducible repeat (first|refine bN_ ?_ _|refine bD_ ?_|refine bA_ ?_ _)); exact BK146.out), GW145.out, GE145.out, NB134_145.out, NB145_134.out, NB135_145.out, NB145_135.out, NB136_145.out, NB145_136.out, NB146_145.out, NB145_146.out, GW146.out, GE146.out, NB134_146.out, NB146_134.out, NB135_146.out, NB146_135.out, NB136_146.out, NB146_136.out, (by repeat (first|(with_reducible first|exact HB.out|apply pA_|apply pN_|apply pD_|refine bS_ ?_ GE134.out|refine bS_ ?_ GE135.out|refine bS_ ?_ GE136.out|refine bS_ ?_ GE145.out|refine bS_ ?_ GE146.out)|exact HB.out))⟩)
      ·
       skip
       rintro gb144 w28 ⟨hS_, h0_, h1_, h2_, h3_, h4_, h5_, h6_, h7_, h8_, h9_, h10_, h11_, h12_⟩
       have n0_ : Aside0 (w28.heap[gb134]? = some (.cells #[.int .u64 t138, .int .i64 t139] 56 (0, 0))) := ⟨h0_⟩
       have n1_ : Aside0 (w28.heap[gb135]? = some (.cells #[.int .u64 t140, .int .i64 t141] 56 (0, 0))) := ⟨h1_⟩
       have n2_ : Aside0 (w28.heap[gb136]? = some (.cells #[.int .u64 t142, .int .i64 t143] 56 (0, 0))) := ⟨h2_⟩
       have n3_ : Aside0 (w28.heap[gb144]? = some (.cells #[.int .u64 0, .int .i64 0] 58 (0, 0))) := ⟨h3_⟩
       have n4_ : Aside0 (w.heap.size ≤ gb144) := ⟨h4_⟩
       have n5_ : Aside0 (w.heap.size ≤ gb144) := ⟨h5_⟩
       have n6_ : Aside0 (gb134 ≠ gb144) := ⟨h6_⟩
       have n7_ : Aside0 (gb144 ≠ gb134) := ⟨h7_⟩
       have n8_ : Aside0 (gb135 ≠ gb144) := ⟨h8_⟩
       have n9_ : Aside0 (gb144 ≠ gb135) := ⟨h9_⟩
       have n10_ : Aside0 (gb136 ≠ gb144) := ⟨h10_⟩
       have n11_ : Aside0 (gb144 ≠ gb136) := ⟨h11_⟩
       have n12_ : Aside0 (Below w.heap.size w w28) := ⟨h12_⟩
       clear BK134
       clear BK135
       clear BK136
       clear HB
       clear h0_ h1_ h2_ h3_ h4_ h5_ h6_ h7_ h8_ h9_ h10_ h11_ h12_
       have BK134:=n0_
       have BK135:=n1_
       have BK136:=n2_
       have BK144:=n3_
       have GW144:=n4_
       have GE144:=n5_
       have NB134_144:=n6_
       have NB144_134:=n7_
       have NB135_144:=n8_
       have NB144_135:=n9_
       have NB136_144:=n10_
       have NB144_136:=n11_
       have HB:=n12_
       clear n0_ n1_ n2_ n3_ n4_ n5_ n6_ n7_ n8_ n9_ n10_ n11_ n12_
       have hHeld : w28.cell? ⟨gb134, 0, none⟩ = some (.int .u64 t138) ∧ w28.cell? ⟨gb134, 1, none⟩ = some (.int .i64 t139) ∧ w28.cell? ⟨gb135, 0, none⟩ = some (.int .u64 t140) ∧ w28.cell? ⟨gb135, 1, none⟩ = some (.int .i64 t141) ∧ w28.cell? ⟨gb136, 0, none⟩ = some (.int .u64 t142) ∧ w28.cell? ⟨gb136, 1, none⟩ = some (.int .i64 t143) := hS_
       refine norm_ (a' := ?_) ?_ ?_
       rotate_left
       ·
        simp only [putAll, Act.put, List.setIfInBounds_toArray, List.set_cons_zero, List.set_cons_succ]
        rfl
       refine two_ (i := 4) (j := 5) (Ni := some 8) (Nj := some 9) qm5 qm12 rfl rfl rfl rfl (two_of HT_.out (by kernel_rfl)) (by decide) (by decide) (fun K hK => ?_) (fun K hK => ?_)
       ·
        skip
        refine box_step ?hg (N := 8) ?hd (cs := #[.int .u64 0, .int .i64 0]) (t := 58) ?hr ?_; (case hd => rfl); (case hg => rfl); (case hr => first|(go_simp; done)|(go_simp; rfl))
        intro gb145 hg w29 hbox hb
        have n0_:=K_ (blk_below (g := gb134) (o := .cells #[.int .u64 t138, .int .i64 t139] 56 (0, 0)) (by (with_reducible repeat (first|refine bN_ ?_ _|refine bD_ ?_|refine bA_ ?_ _)); exact BK134.out) hb)
        have n1_:=K_ (blk_below (g := gb135) (o := .cells #[.int .u64 t140, .int .i64 t141] 56 (0, 0)) (by (with_reducible repeat (first|refine bN_ ?_ _|refine bD_ ?_|refine bA_ ?_ _)); exact BK135.out) hb)
        have n2_:=K_ (blk_below (g := gb136) (o := .cells #[.int .u64 t142, .int .i64 t143] 56 (0, 0)) (by (with_reducible repeat (first|refine bN_ ?_ _|refine bD_ ?_|refine bA_ ?_ _)); exact BK136.out) hb)
        have n3_:=K_ (blk_below (g := gb144) (o := .cells #[.int .u64 0, .int .i64 0] 58 (0, 0)) (by (with_reducible repeat (first|refine bN_ ?_ _|refine bD_ ?_|refine bA_ ?_ _)); exact BK144.out) hb)
        have n4_:=K_ (below_step (by repeat (first|(with_reducible first|exact HB.out|apply pA_|apply pN_|apply pD_|refine bS_ ?_ GE134.out|refine bS_ ?_ GE135.out|refine bS_ ?_ GE136.out|refine bS_ ?_ GE144.out)|exact HB.out)) hb)
        have n5_:=K_ (hbox)
        have n6_:=K_ ((by rw [hg]; exact (below_size (by repeat (first|(with_reducible first|exact HB.out|apply pA_|apply pN_|apply pD_|refine bS_ ?_ GE134.out|refine bS_ ?_ GE135.out|refine bS_ ?_ GE136.out|refine bS_ ?_ GE144.out)|exact HB.out))) : w.heap.size ≤ gb145))
        have n7_:=K_ ((by rw [hg]; exact (below_size (by repeat (first|(with_reducible first|exact HB.out|apply pA_|apply pN_|apply pD_|refine bS_ ?_ GE134.out|refine bS_ ?_ GE135.out|refine bS_ ?_ GE136.out|refine bS_ ?_ GE144.out)|exact HB.out))) : w.heap.size ≤ gb145))
        have n8_:=K_ ((by rw [hg]; exact Nat.ne_of_lt (blk_lt (g := gb134) (o := .cells #[.int .u64 t138, .int .i64 t139] 56 (0, 0)) (by (with_reducible repeat (first|refine bN_ ?_ _|refine bD_ ?_|refine bA_ ?_ _)); exact BK134.out)) : gb134 ≠ gb145))
        have n9_:=K_ ((by rw [hg]; exact Nat.ne_of_gt (blk_lt (g := gb134) (o := .cells #[.int .u64 t138, .int .i64 t139] 56 (0, 0)) (by (with_reducible repeat (first|refine bN_ ?_ _|refine bD_ ?_|refine bA_ ?_ _)); exact BK134.out)) : gb145 ≠ gb134))
        have n10_:=K_ ((by rw [hg]; exact Nat.ne_of_lt (blk_lt (g := gb135) (o := .cells #[.int .u64 t140, .int .i64 t141] 56 (0, 0)) (by (with_reducible repeat (first|refine bN_ ?_ _|refine bD_ ?_|refine bA_ ?_ _)); exact BK135.out)) : gb135 ≠ gb145))
        have n11_:=K_ ((by rw [hg]; exact Nat.ne_of_gt (blk_lt (g := gb135) (o := .cells #[.int .u64 t140, .int .i64 t141] 56 (0, 0)) (by (with_reducible repeat (first|refine bN_ ?_ _|refine bD_ ?_|refine bA_ ?_ _)); exact BK135.out)) : gb145 ≠ gb135))
        have n12_:=K_ ((by rw [hg]; exact Nat.ne_of_lt (blk_lt (g := gb136) (o := .cells #[.int .u64 t142, .int .i64 t143] 56 (0, 0)) (by (with_reducible repeat (first|refine bN_ ?_ _|refine bD_ ?_|refine bA_ ?_ _)); exact BK136.out)) : gb136 ≠ gb145))
        have n13_:=K_ ((by rw [hg]; exact Nat.ne_of_gt (blk_lt (g := gb136) (o := .cells #[.int .u64 t142, .int .i64 t143] 56 (0, 0)) (by (with_reducible repeat (first|refine bN_ ?_ _|refine bD_ ?_|refine bA_ ?_ _)); exact BK136.out)) : gb145 ≠ gb136))
        have n14_:=K_ ((by rw [hg]; exact Nat.ne_of_lt (blk_lt (g := gb144) (o := .cells #[.int .u64 0, .int .i64 0] 58 (0, 0)) (by (with_reducible repeat (first|refine bN_ ?_ _|refine bD_ ?_|refine bA_ ?_ _)); exact BK144.out)) : gb144 ≠ gb145))
        have n15_:=K_ ((by rw [hg]; exact Nat.ne_of_gt (blk_lt (g := gb144) (o := .cells #[.int .u64 0, .int .i64 0] 58 (0, 0)) (by (with_reducible repeat (first|refine bN_ ?_ _|refine bD_ ?_|refine bA_ ?_ _)); exact BK144.out)) : gb145 ≠ gb144))
        clear BK134
        clear BK135
        clear BK136
        clear BK144
        clear HB
        have BK134:=n0_
        have BK135:=n1_
        have BK136:=n2_
        have BK144:=n3_
        have HB:=n4_
        have BK145:=n5_
        have GW145:=n6_
        have GE145:=n7_
        have NB134_145:=n8_
        have NB145_134:=n9_
        have NB135_145:=n10_
        have NB145_135:=n11_
        have NB136_145:=n12_
        have NB145_136:=n13_
        have NB144_145:=n14_
        have NB145_144:=n15_
        clear n0_ n1_ n2_ n3_ n4_ n5_ n6_ n7_ n8_ n9_ n10_ n11_ n12_ n13_ n14_ n15_
        clear hb hbox hg
        refine hK.out _ _ ⟨(blk_cell BK134.out 0).trans rfl, (blk_cell BK134.out 1).trans rfl, (blk_cell BK135.out 0).trans rfl, (blk_cell BK135.out 1).trans rfl, (blk_cell BK136.out 0).trans rfl, (blk_cell BK136.out 1).trans rfl⟩ (fun hHeld => ?_)
        clear hK K
        refine norm_ (a' := ?_) ?_ ?_
        rotate_left
        ·
         show Act.put _ (some 8) _ = _
         simp only [Act.put, e1_, e2_, e3_, i64_w, i32_w]
         rfl
        exact norm_ (by first|(simp only [putAll, Act.put, List.setIfInBounds_toArray, List.set_cons_zero, List.set_cons_succ]; done)|(simp only [putAll, Act.put, List.setIfInBounds_toArray, List.set_cons_zero, List.set_cons_succ]; rfl)) (hJ3_4 (gb144, gb145) _ ⟨hHeld, (by (with_reducible repeat (first|refine bN_ ?_ _|refine bD_ ?_|refine bA_ ?_ _)); exact BK134.out), (by (with_reducible repeat (first|refine bN_ ?_ _|refine bD_ ?_|refine bA_ ?_ _)); exact BK135.out), (by (with_reducible repeat (first|refine bN_ ?_ _|refine bD_ ?_|refine bA_ ?_ _)); exact BK136.out), (by (with_reducible repeat (first|refine bN_ ?_ _|refine bD_ ?_|refine bA_ ?_ _)); exact BK144.out), (by (with_reducible repeat (first|refine bN_ ?_ _|refine bD_ ?_|refine bA_ ?_ _)); exact BK145.out), GW144.out, GE144.out, NB134_144.out, NB144_134.out, NB135_144.out, NB144_135.out, NB136_144.out, NB144_136.out, NB145_144.out, NB144_145.out, GW145.out, GE145.out, NB134_145.out, NB145_134.out, NB135_145.out, NB145_135.out, NB136_145.out, NB145_136.out, (by repeat (first|(with_reducible first|exact HB.out|apply pA_|apply pN_|apply pD_|refine bS_ ?_ GE134.out|refine bS_ ?_ GE135.out|refine bS_ ?_ GE136.out|refine bS_ ?_ GE144.out|refine bS_ ?_ GE145.out)|exact HB.out))⟩)
       ·
        skip
        refine box_step ?hg (N := 9) ?hd (cs := #[.int .u64 0, .int .i64 0]) (t := 58) ?hr ?_; (case hd => rfl); (case hg => rfl); (case hr => first|(go_simp; done)|(go_simp; rfl))
        intro gb146 hg w29 hbox hb
        have n0_:=K_ (blk_below (g := gb134) (o := .cells #[.int .u64 t138, .int .i64 t139] 56 (0, 0)) (by (with_reducible repeat (first|refine bN_ ?_ _|refine bD_ ?_|refine bA_ ?_ _)); exact BK134.out) hb)
        have n1_:=K_ (blk_below (g := gb135) (o := .cells #[.int .u64 t140, .int .i64 t141] 56 (0, 0)) (by (with_reducible repeat (first|refine bN_ ?_ _|refine bD_ ?_|refine bA_ ?_ _)); exact BK135.out) hb)
        have n2_:=K_ (blk_below (g := gb136) (o := .cells #[.int .u64 t142, .int .i64 t143] 56 (0, 0)) (by (with_reducible repeat (first|refine bN_ ?_ _|refine bD_ ?_|refine bA_ ?_ _)); exact BK136.out) hb)
        have n3_:=K_ (blk_below (g := gb144) (o := .cells #[.int .u64 0, .int .i64 0] 58 (0, 0)) (by (with_reducible repeat (first|refine bN_ ?_ _|refine bD_ ?_|refine bA_ ?_ _)); exact BK144.out) hb)
        have n4_:=K_ (below_step (by repeat (first|(with_reducible first|exact HB.out|apply pA_|apply pN_|apply pD_|refine bS_ ?_ GE134.out|refine bS_ ?_ GE135.out|refine bS_ ?_ GE136.out|refine bS_ ?_ GE144.out)|exact HB.out)) hb)
        have n5_:=K_ (hbox)
        have n6_:=K_ ((by rw [hg]; exact (below_size (by repeat (first|(with_reducible first|exact HB.out|apply pA_|apply pN_|apply pD_|refine bS_ ?_ GE134.out|refine bS_ ?_ GE135.out|refine bS_ ?_ GE136.out|refine bS_ ?_ GE144.out)|exact HB.out))) : w.heap.size ≤ gb146))
        have n7_:=K_ ((by rw [hg]; exact (below_size (by repeat (first|(with_reducible first|exact HB.out|apply pA_|apply pN_|apply pD_|refine bS_ ?_ GE134.out|refine bS_ ?_ GE135.out|refine bS_ ?_ GE136.out|refine bS_ ?_ GE144.out)|exact HB.out))) : w.heap.size ≤ gb146))
        have n8_:=K_ ((by rw [hg]; exact Nat.ne_of_lt (blk_lt (g := gb134) (o := .cells #[.int .u64 t138, .int .i64 t139] 56 (0, 0)) (by (with_reducible repeat (first|refine bN_ ?_ _|refine bD_ ?_|refine bA_ ?_ _)); exact BK134.out)) : gb134 ≠ gb146))
        have n9_:=K_ ((by rw [hg]; exact Nat.ne_of_gt (blk_lt (g := gb134) (o := .cells #[.int .u64 t138, .int .i64 t139] 56 (0, 0)) (by (with_reducible repeat (first|refine bN_ ?_ _|refine bD_ ?_|refine bA_ ?_ _)); exact BK134.out)) : gb146 ≠ gb134))
        have n10_:=K_ ((by rw [hg]; exact Nat.ne_of_lt (blk_lt (g := gb135) (o := .cells #[.int .u64 t140, .int .i64 t141] 56 (0, 0)) (by (with_reducible repeat (first|refine bN_ ?_ _|refine bD_ ?_|refine bA_ ?_ _)); exact BK135.out)) : gb135 ≠ gb146))
        have n11_:=K_ ((by rw [hg]; exact Nat.ne_of_gt (blk_lt (g := gb135) (o := .cells #[.int .u64 t140, .int .i64 t141] 56 (0, 0)) (by (with_reducible repeat (first|refine bN_ ?_ _|refine bD_ ?_|refine bA_ ?_ _)); exact BK135.out)) : gb146 ≠ gb135))
        have n12_:=K_ ((by rw [hg]; exact Nat.ne_of_lt (blk_lt (g := gb136) (o := .cells #[.int .u64 t142, .int .i64 t143] 56 (0, 0)) (by (with_reducible repeat (first|refine bN_ ?_ _|refine bD_ ?_|refine bA_ ?_ _)); exact BK136.out)) : gb136 ≠ gb146))
        have n13_:=K_ ((by rw [hg]; exact Nat.ne_of_gt (blk_lt (g := gb136) (o := .cells #[.int .u64 t142, .int .i64 t143] 56 (0, 0)) (by (with_reducible repeat (first|refine bN_ ?_ _|refine bD_ ?_|refine bA_ ?_ _)); exact BK136.out)) : gb146 ≠ gb136))
        have n14_:=K_ ((by rw [hg]; exact Nat.ne_of_lt (blk_lt (g := gb144) (o := .cells #[.int .u64 0, .int .i64 0] 58 (0, 0)) (by (with_reducible repeat (first|refine bN_ ?_ _|refine bD_ ?_|refine bA_ ?_ _)); exact BK144.out)) : gb144 ≠ gb146))
        have n15_:=K_ ((by rw [hg]; exact Nat.ne_of_gt (blk_lt (g := gb144) (o := .cells #[.int .u64 0, .int .i64 0] 58 (0, 0)) (by (with_reducible repeat (first|refine bN_ ?_ _|refine bD_ ?_|refine bA_ ?_ _)); exact BK144.out)) : gb146 ≠ gb144))
        clear BK134
        clear BK135
        clear BK136
        clear BK144
        clear HB
        have BK134:=n0_
        have BK135:=n1_
        have BK136:=n2_
        have BK144:=n3_
        have HB:=n4_
        have BK146:=n5_
        have GW146:=n6_
        have GE146:=n7_
        have NB134_146:=n8_
        have NB146_134:=n9_
        have NB135_146:=n10_
        have NB146_135:=n11_
        have NB136_146:=n12_
        have NB146_136:=n13_
        have NB144_146:=n14_
        have NB146_144:=n15_
        clear n0_ n1_ n2_ n3_ n4_ n5_ n6_ n7_ n8_ n9_ n10_ n11_ n12_ n13_ n14_ n15_
        clear hb hbox hg
        refine hK.out _ _ ⟨(blk_cell BK134.out 0).trans rfl, (blk_cell BK134.out 1).trans rfl, (blk_cell BK135.out 0).trans rfl, (blk_cell BK135.out 1).trans rfl, (blk_cell BK136.out 0).trans rfl, (blk_cell BK136.out 1).trans rfl⟩ (fun hHeld => ?_)
        clear hK K
        refine norm_ (a' := ?_) ?_ ?_
        rotate_left
        ·
         show Act.put _ (some 9) _ = _
         simp only [Act.put, e1_, e2_, e3_, i64_w, i32_w]
         rfl
        exact norm_ (by first|(simp only [putAll, Act.put, List.setIfInBounds_toArray, List.set_cons_zero, List.set_cons_succ]; done)|(simp only [putAll, Act.put, List.setIfInBounds_toArray, List.set_cons_zero, List.set_cons_succ]; rfl)) (hJ3_5 (gb144, gb146) _ ⟨hHeld, (by (with_reducible repeat (first|refine bN_ ?_ _|refine bD_ ?_|refine bA_ ?_ _)); exact BK134.out), (by (with_reducible repeat (first|refine bN_ ?_ _|refine bD_ ?_|refine bA_ ?_ _)); exact BK135.out), (by (with_reducible repeat (first|refine bN_ ?_ _|refine bD_ ?_|refine bA_ ?_ _)); exact BK136.out), (by (with_reducible repeat (first|refine bN_ ?_ _|refine bD_ ?_|refine bA_ ?_ _)); exact BK144.out), (by (with_reducible repeat (first|refine bN_ ?_ _|refine bD_ ?_|refine bA_ ?_ _)); exact BK146.out), GW144.out, GE144.out, NB134_144.out, NB144_134.out, NB135_144.out, NB144_135.out, NB136_144.out, NB144_136.out, NB146_144.out, NB144_146.out, GW146.out, GE146.out, NB134_146.out, NB146_134.out, NB135_146.out, NB146_135.out, NB136_146.out, NB146_136.out, (by repeat (first|(with_reducible first|exact HB.out|apply pA_|apply pN_|apply pD_|refine bS_ ?_ GE134.out|refine bS_ ?_ GE135.out|refine bS_ ?_ GE136.out|refine bS_ ?_ GE144.out|refine bS_ ?_ GE146.out)|exact HB.out))⟩)
     ·
      skip
      rintro ⟨gb145, gb146⟩ w29 ⟨hS_, h0_, h1_, h2_, h3_, h4_, h5_, h6_, h7_, h8_, h9_, h10_, h11_, h12_, h13_, h14_, h15_, h16_, h17_, h18_, h19_, h20_, h21_, h22_, h23_⟩
      have n0_ : Aside0 (w29.heap[gb134]? = some (.cells #[.int .u64 t138, .int .i64 t139] 56 (0, 0))) := ⟨h0_⟩
      have n1_ : Aside0 (w29.heap[gb135]? = some (.cells #[.int .u64 t140, .int .i64 t141] 56 (0, 0))) := ⟨h1_⟩
      have n2_ : Aside0 (w29.heap[gb136]? = some (.cells #[.int .u64 t142, .int .i64 t143] 56 (0, 0))) := ⟨h2_⟩
      have n3_ : Aside0 (w29.heap[gb145]? = some (.cells #[.int .u64 0, .int .i64 0] 58 (0, 0))) := ⟨h3_⟩
      have n4_ : Aside0 (w29.heap[gb146]? = some (.cells #[.int .u64 0, .int .i64 0] 58 (0, 0))) := ⟨h4_⟩
      have n5_ : Aside0 (w.heap.size ≤ gb145) := ⟨h5_⟩
      have n6_ : Aside0 (w.heap.size ≤ gb145) := ⟨h6_⟩
      have n7_ : Aside0 (gb134 ≠ gb145) := ⟨h7_⟩
      have n8_ : Aside0 (gb145 ≠ gb134) := ⟨h8_⟩
      have n9_ : Aside0 (gb135 ≠ gb145) := ⟨h9_⟩
      have n10_ : Aside0 (gb145 ≠ gb135) := ⟨h10_⟩
      have n11_ : Aside0 (gb136 ≠ gb145) := ⟨h11_⟩
      have n12_ : Aside0 (gb145 ≠ gb136) := ⟨h12_⟩
      have n13_ : Aside0 (gb146 ≠ gb145) := ⟨h13_⟩
      have n14_ : Aside0 (gb145 ≠ gb146) := ⟨h14_⟩
      have n15_ : Aside0 (w.heap.size ≤ gb146) := ⟨h15_⟩
      have n16_ : Aside0 (w.heap.size ≤ gb146) := ⟨h16_⟩
      have n17_ : Aside0 (gb134 ≠ gb146) := ⟨h17_⟩
      have n18_ : Aside0 (gb146 ≠ gb134) := ⟨h18_⟩
      have n19_ : Aside0 (gb135 ≠ gb146) := ⟨h19_⟩
      have n20_ : Aside0 (gb146 ≠ gb135) := ⟨h20_⟩
      have n21_ : Aside0 (gb136 ≠ gb146) := ⟨h21_⟩
      have n22_ : Aside0 (gb146 ≠ gb136) := ⟨h22_⟩
      have n23_ : Aside0 (Below w.heap.size w w29) := ⟨h23_⟩
      clear BK134
      clear BK135
      clear BK136
      clear HB
      clear h0_ h1_ h2_ h3_ h4_ h5_ h6_ h7_ h8_ h9_ h10_ h11_ h12_ h13_ h14_ h15_ h16_ h17_ h18_ h19_ h20_ h21_ h22_ h23_
      have BK134:=n0_
      have BK135:=n1_
      have BK136:=n2_
      have BK145:=n3_
      have BK146:=n4_
      have GW145:=n5_
      have GE145:=n6_
      have NB134_145:=n7_
      have NB145_134:=n8_
      have NB135_145:=n9_
      have NB145_135:=n10_
      have NB136_145:=n11_
      have NB145_136:=n12_
      have NB146_145:=n13_
      have NB145_146:=n14_
      have GW146:=n15_
      have GE146:=n16_
      have NB134_146:=n17_
      have NB146_134:=n18_
      have NB135_146:=n19_
      have NB146_135:=n20_
      have NB136_146:=n21_
      have NB146_136:=n22_
      have HB:=n23_
      clear n0_ n1_ n2_ n3_ n4_ n5_ n6_ n7_ n8_ n9_ n10_ n11_ n12_ n13_ n14_ n15_ n16_ n17_ n18_ n19_ n20_ n21_ n22_ n23_
      have hHeld : w29.cell? ⟨gb134, 0, none⟩ = some (.int .u64 t138) ∧ w29.cell? ⟨gb134, 1, none⟩ = some (.int .i64 t139) ∧ w29.cell? ⟨gb135, 0, none⟩ = some (.int .u64 t140) ∧ w29.cell? ⟨gb135, 1, none⟩ = some (.int .i64 t141) ∧ w29.cell? ⟨gb136, 0, none⟩ = some (.int .u64 t142) ∧ w29.cell? ⟨gb136, 1, none⟩ = some (.int .i64 t143) := hS_
      refine norm_ (a' := ?_) ?_ ?_
      rotate_left
      ·
       simp only [putAll, Act.put, List.setIfInBounds_toArray, List.set_cons_zero, List.set_cons_succ]
       rfl
      refine one_ (i := 3) (N := some 7) qm6 rfl rfl (one_of HT_.out (by kernel_rfl)) (by decide) (fun K hK => ?_)
      refine box_step ?hg (N := 7) ?hd (cs := #[.int .u64 0, .int .i64 0]) (t := 58) ?hr ?_; (case hd => rfl); (case hg => rfl); (case hr => first|(go_simp; done)|(go_simp; rfl))
      intro gb144 hg w30 hbox hb
      have n0_:=K_ (blk_below (g := gb134) (o := .cells #[.int .u64 t138, .int .i64 t139] 56 (0, 0)) (by (with_reducible repeat (first|refine bN_ ?_ _|refine bD_ ?_|refine bA_ ?_ _)); exact BK134.out) hb)
      have n1_:=K_ (blk_below (g := gb135) (o := .cells #[.int .u64 t140, .int .i64 t141] 56 (0, 0)) (by (with_reducible repeat (first|refine bN_ ?_ _|refine bD_ ?_|refine bA_ ?_ _)); exact BK135.out) hb)
      have n2_:=K_ (blk_below (g := gb136) (o := .cells #[.int .u64 t142, .int .i64 t143] 56 (0, 0)) (by (with_reducible repeat (first|refine bN_ ?_ _|refine bD_ ?_|refine bA_ ?_ _)); exact BK136.out) hb)
      have n3_:=K_ (blk_below (g := gb145) (o := .cells #[.int .u64 0, .int .i64 0] 58 (0, 0)) (by (with_reducible repeat (first|refine bN_ ?_ _|refine bD_ ?_|refine bA_ ?_ _)); exact BK145.out) hb)
      have n4_:=K_ (blk_below (g := gb146) (o := .cells #[.int .u64 0, .int .i64 0] 58 (0, 0)) (by (with_reducible repeat (first|refine bN_ ?_ _|refine bD_ ?_|refine bA_ ?_ _)); exact BK146.out) hb)
      have n5_:=K_ (below_step (by repeat (first|(with_reducible first|exact HB.out|apply pA_|apply pN_|apply pD_|refine bS_ ?_ GE134.out|refine bS_ ?_ GE135.out|refine bS_ ?_ GE136.out|refine bS_ ?_ GE145.out|refine bS_ ?_ GE146.out)|exact HB.out)) hb)
      have n6_:=K_ (hbox)
      have n7_:=K_ ((by rw [hg]; exact (below_size (by repeat (first|(with_reducible first|exact HB.out|apply pA_|apply pN_|apply pD_|refine bS_ ?_ GE134.out|refine bS_ ?_ GE135.out|refine bS_ ?_ GE136.out|refine bS_ ?_ GE145.out|refine bS_ ?_ GE146.out)|exact HB.out))) : w.heap.size ≤ gb144))
      have n8_:=K_ ((by rw [hg]; exact (below_size (by repeat (first|(with_reducible first|exact HB.out|apply pA_|apply pN_|apply pD_|refine bS_ ?_ GE134.out|refine bS_ ?_ GE135.out|refine bS_ ?_ GE136.out|refine bS_ ?_ GE145.out|refine bS_ ?_ GE146.out)|exact HB.out))) : w.heap.size ≤ gb144))
      have n9_:=K_ ((by rw [hg]; exact Nat.ne_of_lt (blk_lt (g := gb134) (o := .cells #[.int .u64 t138, .int .i64 t139] 56 (0, 0)) (by (with_reducible repeat (first|refine bN_ ?_ _|refine bD_ ?_|refine bA_ ?_ _)); exact BK134.out)) : gb134 ≠ gb144))
      have n10_:=K_ ((by rw [hg]; exact Nat.ne_of_gt (blk_lt (g := gb134) (o := .cells #[.int .u64 t138, .int .i64 t139] 56 (0, 0)) (by (with_reducible repeat (first|refine bN_ ?_ _|refine bD_ ?_|refine bA_ ?_ _)); exact BK134.out)) : gb144 ≠ gb134))
      have n11_:=K_ ((by rw [hg]; exact Nat.ne_of_lt (blk_lt (g := gb135) (o := .cells #[.int .u64 t140, .int .i64 t141] 56 (0, 0)) (by (with_reducible repeat (first|refine bN_ ?_ _|refine bD_ ?_|refine bA_ ?_ _)); exact BK135.out)) : gb135 ≠ gb144))
      have n12_:=K_ ((by rw [hg]; exact Nat.ne_of_gt (blk_lt (g := gb135) (o := .cells #[.int .u64 t140, .int .i64 t141] 56 (0, 0)) (by (with_reducible repeat (first|refine bN_ ?_ _|refine bD_ ?_|refine bA_ ?_ _)); exact BK135.out)) : gb144 ≠ gb135))
      have n13_:=K_ ((by rw [hg]; exact Nat.ne_of_lt (blk_lt (g := gb136) (o := .cells #[.int .u64 t142, .int .i64 t143] 56 (0, 0)) (by (with_reducible repeat (first|refine bN_ ?_ _|refine bD_ ?_|refine bA_ ?_ _)); exact BK136.out)) : gb136 ≠ gb144))
      have n14_:=K_ ((by rw [hg]; exact Nat.ne_of_gt (blk_lt (g := gb136) (o := .cells #[.int .u64 t142, .int .i64 t143] 56 (0, 0)) (by (with_reducible repeat (first|refine bN_ ?_ _|refine bD_ ?_|refine bA_ ?_ _)); exact BK136.out)) : gb144 ≠ gb136))
      have n15_:=K_ ((by rw [hg]; exact Nat.ne_of_lt (blk_lt (g := gb145) (o := .cells #[.int .u64 0, .int .i64 0] 58 (0, 0)) (by (with_reducible repeat (first|refine bN_ ?_ _|refine bD_ ?_|refine bA_ ?_ _)); exact BK145.out)) : gb145 ≠ gb144))
      have n16_:=K_ ((by rw [hg]; exact Nat.ne_of_gt (blk_lt (g := gb145) (o := .cells #[.int .u64 0, .int .i64 0] 58 (0, 0)) (by (with_reducible repeat (first|refine bN_ ?_ _|refine bD_ ?_|refine bA_ ?_ _)); exact BK145.out)) : gb144 ≠ gb145))
      have n17_:=K_ ((by rw [hg]; exact Nat.ne_of_lt (blk_lt (g := gb146) (o := .cells #[.int .u64 0, .int .i64 0] 58 (0, 0)) (by (with_reducible repeat (first|refine bN_ ?_ _|refine bD_ ?_|refine bA_ ?_ _)); exact BK146.out)) : gb146 ≠ gb144))
      have n18_:=K_ ((by rw [hg]; exact Nat.ne_of_gt (blk_lt (g := gb146) (o := .cells #[.int .u64 0, .int .i64 0] 58 (0, 0)) (by (with_reducible repeat (first|refine bN_ ?_ _|refine bD_ ?_|refine bA_ ?_ _)); exact BK146.out)) : gb144 ≠ gb146))
      clear BK134
      clear BK135
      clear BK136
      clear BK145
      clear BK146
      clear HB
      have BK134:=n0_
      have BK135:=n1_
      have BK136:=n2_
      have BK145:=n3_
      have BK146:=n4_
      have HB:=n5_
      have BK144:=n6_
      have GW144:=n7_
      have GE144:=n8_
      have NB134_144:=n9_
      have NB144_134:=n10_
      have NB135_144:=n11_
      have NB144_135:=n12_
      have NB136_144:=n13_
      have NB144_136:=n14_
      have NB145_144:=n15_
      have NB144_145:=n16_
      have NB146_144:=n17_
      have NB144_146:=n18_
      clear n0_ n1_ n2_ n3_ n4_ n5_ n6_ n7_ n8_ n9_ n10_ n11_ n12_ n13_ n14_ n15_ n16_ n17_ n18_
      clear hb hbox hg
      refine hK.out _ _ ⟨(blk_cell BK134.out 0).trans rfl, (blk_cell BK134.out 1).trans rfl, (blk_cell BK135.out 0).trans rfl, (blk_cell BK135.out 1).trans rfl, (blk_cell BK136.out 0).trans rfl, (blk_cell BK136.out 1).trans rfl⟩ (fun hHeld => ?_)
      clear hK K
      refine norm_ (a' := ?_) ?_ ?_
      rotate_left
      ·
       show Act.put _ (some 7) _ = _
       simp only [Act.put, e1_, e2_, e3_, i64_w, i32_w]
       rfl
      exact norm_ (by first|(simp only [putAll, Act.put, List.setIfInBounds_toArray, List.set_cons_zero, List.set_cons_succ]; done)|(simp only [putAll, Act.put, List.setIfInBounds_toArray, List.set_cons_zero, List.set_cons_succ]; rfl)) (hJ3_4_5 (gb144, gb145, gb146) _ ⟨hHeld, (by (with_reducible repeat (first|refine bN_ ?_ _|refine bD_ ?_|refine bA_ ?_ _)); exact BK134.out), (by (with_reducible repeat (first|refine bN_ ?_ _|refine bD_ ?_|refine bA_ ?_ _)); exact BK135.out), (by (with_reducible repeat (first|refine bN_ ?_ _|refine bD_ ?_|refine bA_ ?_ _)); exact BK136.out), (by (with_reducible repeat (first|refine bN_ ?_ _|refine bD_ ?_|refine bA_ ?_ _)); exact BK144.out), (by (with_reducible repeat (first|refine bN_ ?_ _|refine bD_ ?_|refine bA_ ?_ _)); exact BK145.out), (by (with_reducible repeat (first|refine bN_ ?_ _|refine bD_ ?_|refine bA_ ?_ _)); exact BK146.out), GW144.out, GE144.out, NB134_144.out, NB144_134.out, NB135_144.out, NB144_135.out, NB136_144.out, NB144_136.out, NB145_144.out, NB144_145.out, NB146_144.out, NB144_146.out, GW145.out, GE145.out, NB134_145.out, NB145_134.out, NB135_145.out, NB145_135.out, NB136_145.out, NB145_136.out, NB146_145.out, NB145_146.out, GW146.out, GE146.out, NB134_146.out, NB146_134.out, NB135_146.out, NB146_135.out, NB136_146.out, NB146_136.out, (by repeat (first|(with_reducible first|exact HB.out|apply pA_|apply pN_|apply pD_|refine bS_ ?_ GE134.out|refine bS_ ?_ GE135.out|refine bS_ ?_ GE136.out|refine bS_ ?_ GE145.out|refine bS_ ?_ GE146.out|refine bS_ ?_ GE144.out)|exact HB.out))⟩)
    ·
     skip
     rintro ⟨gb144, gb146⟩ w29 ⟨hS_, h0_, h1_, h2_, h3_, h4_, h5_, h6_, h7_, h8_, h9_, h10_, h11_, h12_, h13_, h14_, h15_, h16_, h17_, h18_, h19_, h20_, h21_, h22_, h23_⟩
     have n0_ : Aside0 (w29.heap[gb134]? = some (.cells #[.int .u64 t138, .int .i64 t139] 56 (0, 0))) := ⟨h0_⟩
     have n1_ : Aside0 (w29.heap[gb135]? = some (.cells #[.int .u64 t140, .int .i64 t141] 56 (0, 0))) := ⟨h1_⟩
     have n2_ : Aside0 (w29.heap[gb136]? = some (.cells #[.int .u64 t142, .int .i64 t143] 56 (0, 0))) := ⟨h2_⟩
     have n3_ : Aside0 (w29.heap[gb144]? = some (.cells #[.int .u64 0, .int .i64 0] 58 (0, 0))) := ⟨h3_⟩
     have n4_ : Aside0 (w29.heap[gb146]? = some (.cells #[.int .u64 0, .int .i64 0] 58 (0, 0))) := ⟨h4_⟩
     have n5_ : Aside0 (w.heap.size ≤ gb144) := ⟨h5_⟩
     have n6_ : Aside0 (w.heap.size ≤ gb144) := ⟨h6_⟩
     have n7_ : Aside0 (gb134 ≠ gb144) := ⟨h7_⟩
     have n8_ : Aside0 (gb144 ≠ gb134) := ⟨h8_⟩
     have n9_ : Aside0 (gb135 ≠ gb144) := ⟨h9_⟩
     have n10_ : Aside0 (gb144 ≠ gb135) := ⟨h10_⟩
     have n11_ : Aside0 (gb136 ≠ gb144) := ⟨h11_⟩
     have n12_ : Aside0 (gb144 ≠ gb136) := ⟨h12_⟩
     have n13_ : Aside0 (gb146 ≠ gb144) := ⟨h13_⟩
     have n14_ : Aside0 (gb144 ≠ gb146) := ⟨h14_⟩
     have n15_ : Aside0 (w.heap.size ≤ gb146) := ⟨h15_⟩
     have n16_ : Aside0 (w.heap.size ≤ gb146) := ⟨h16_⟩
     have n17_ : Aside0 (gb134 ≠ gb146) := ⟨h17_⟩
     have n18_ : Aside0 (gb146 ≠ gb134) := ⟨h18_⟩
     have n19_ : Aside0 (gb135 ≠ gb146) := ⟨h19_⟩
     have n20_ : Aside0 (gb146 ≠ gb135) := ⟨h20_⟩
     have n21_ : Aside0 (gb136 ≠ gb146) := ⟨h21_⟩
     have n22_ : Aside0 (gb146 ≠ gb136) := ⟨h22_⟩
     have n23_ : Aside0 (Below w.heap.size w w29) := ⟨h23_⟩
     clear BK134
     clear BK135
     clear BK136
     clear HB
     clear h0_ h1_ h2_ h3_ h4_ h5_ h6_ h7_ h8_ h9_ h10_ h11_ h12_ h13_ h14_ h15_ h16_ h17_ h18_ h19_ h20_ h21_ h22_ h23_
     have BK134:=n0_
     have BK135:=n1_
     have BK136:=n2_
     have BK144:=n3_
     have BK146:=n4_
     have GW144:=n5_
     have GE144:=n6_
     have NB134_144:=n7_
     have NB144_134:=n8_
     have NB135_144:=n9_
     have NB144_135:=n10_
     have NB136_144:=n11_
     have NB144_136:=n12_
     have NB146_144:=n13_
     have NB144_146:=n14_
     have GW146:=n15_
     have GE146:=n16_
     have NB134_146:=n17_
     have NB146_134:=n18_
     have NB135_146:=n19_
     have NB146_135:=n20_
     have NB136_146:=n21_
     have NB146_136:=n22_
     have HB:=n23_
     clear n0_ n1_ n2_ n3_ n4_ n5_ n6_ n7_ n8_ n9_ n10_ n11_ n12_ n13_ n14_ n15_ n16_ n17_ n18_ n19_ n20_ n21_ n22_ n23_
     have hHeld : w29.cell? ⟨gb134, 0, none⟩ = some (.int .u64 t138) ∧ w29.cell? ⟨gb134, 1, none⟩ = some (.int .i64 t139) ∧ w29.cell? ⟨gb135, 0, none⟩ = some (.int .u64 t140) ∧ w29.cell? ⟨gb135, 1, none⟩ = some (.int .i64 t141) ∧ w29.cell? ⟨gb136, 0, none⟩ = some (.int .u64 t142) ∧ w29.cell? ⟨gb136, 1, none⟩ = some (.int .i64 t143) := hS_
     refine norm_ (a' := ?_) ?_ ?_
     rotate_left
     ·
      simp only [putAll, Act.put, List.setIfInBounds_toArray, List.set_cons_zero, List.set_cons_succ]
      rfl
     refine one_ (i := 4) (N := some 8) qm6 rfl rfl (one_of HT_.out (by kernel_rfl)) (by decide) (fun K hK => ?_)
     refine box_step ?hg (N := 8) ?hd (cs := #[.int .u64 0, .int .i64 0]) (t := 58) ?hr ?_; (case hd => rfl); (case hg => rfl); (case hr => first|(go_simp; done)|(go_simp; rfl))
     intro gb145 hg w30 hbox hb
     have n0_:=K_ (blk_below (g := gb134) (o := .cells #[.int .u64 t138, .int .i64 t139] 56 (0, 0)) (by (with_reducible repeat (first|refine bN_ ?_ _|refine bD_ ?_|refine bA_ ?_ _)); exact BK134.out) hb)
     have n1_:=K_ (blk_below (g := gb135) (o := .cells #[.int .u64 t140, .int .i64 t141] 56 (0, 0)) (by (with_reducible repeat (first|refine bN_ ?_ _|refine bD_ ?_|refine bA_ ?_ _)); exact BK135.out) hb)
     have n2_:=K_ (blk_below (g := gb136) (o := .cells #[.int .u64 t142, .int .i64 t143] 56 (0, 0)) (by (with_reducible repeat (first|refine bN_ ?_ _|refine bD_ ?_|refine bA_ ?_ _)); exact BK136.out) hb)
     have n3_:=K_ (blk_below (g := gb144) (o := .cells #[.int .u64 0, .int .i64 0] 58 (0, 0)) (by (with_reducible repeat (first|refine bN_ ?_ _|refine bD_ ?_|refine bA_ ?_ _)); exact BK144.out) hb)
     have n4_:=K_ (blk_below (g := gb146) (o := .cells #[.int .u64 0, .int .i64 0] 58 (0, 0)) (by (with_reducible repeat (first|refine bN_ ?_ _|refine bD_ ?_|refine bA_ ?_ _)); exact BK146.out) hb)
     have n5_:=K_ (below_step (by repeat (first|(with_reducible first|exact HB.out|apply pA_|apply pN_|apply pD_|refine bS_ ?_ GE134.out|refine bS_ ?_ GE135.out|refine bS_ ?_ GE136.out|refine bS_ ?_ GE144.out|refine bS_ ?_ GE146.out)|exact HB.out)) hb)
     have n6_:=K_ (hbox)
     have n7_:=K_ ((by rw [hg]; exact (below_size (by repeat (first|(with_reducible first|exact HB.out|apply pA_|apply pN_|apply pD_|refine bS_ ?_ GE134.out|refine bS_ ?_ GE135.out|refine bS_ ?_ GE136.out|refine bS_ ?_ GE144.out|refine bS_ ?_ GE146.out)|exact HB.out))) : w.heap.size ≤ gb145))
     have n8_:=K_ ((by rw [hg]; exact (below_size (by repeat (first|(with_reducible first|exact HB.out|apply pA_|apply pN_|apply pD_|refine bS_ ?_ GE134.out|refine bS_ ?_ GE135.out|refine bS_ ?_ GE136.out|refine bS_ ?_ GE144.out|refine bS_ ?_ GE146.out)|exact HB.out))) : w.heap.size ≤ gb145))
     have n9_:=K_ ((by rw [hg]; exact Nat.ne_of_lt (blk_lt (g := gb134) (o := .cells #[.int .u64 t138, .int .i64 t139] 56 (0, 0)) (by (with_reducible repeat (first|refine bN_ ?_ _|refine bD_ ?_|refine bA_ ?_ _)); exact BK134.out)) : gb134 ≠ gb145))
     have n10_:=K_ ((by rw [hg]; exact Nat.ne_of_gt (blk_lt (g := gb134) (o := .cells #[.int .u64 t138, .int .i64 t139] 56 (0, 0)) (by (with_reducible repeat (first|refine bN_ ?_ _|refine bD_ ?_|refine bA_ ?_ _)); exact BK134.out)) : gb145 ≠ gb134))
     have n11_:=K_ ((by rw [hg]; exact Nat.ne_of_lt (blk_lt (g := gb135) (o := .cells #[.int .u64 t140, .int .i64 t141] 56 (0, 0)) (by (with_reducible repeat (first|refine bN_ ?_ _|refine bD_ ?_|refine bA_ ?_ _)); exact BK135.out)) : gb135 ≠ gb145))
     have n12_:=K_ ((by rw [hg]; exact Nat.ne_of_gt (blk_lt (g := gb135) (o := .cells #[.int .u64 t140, .int .i64 t141] 56 (0, 0)) (by (with_reducible repeat (first|refine bN_ ?_ _|refine bD_ ?_|refine bA_ ?_ _)); exact BK135.out)) : gb145 ≠ gb135))
     have n13_:=K_ ((by rw [hg]; exact Nat.ne_of_lt (blk_lt (g := gb136) (o := .cells #[.int .u64 t142, .int .i64 t143] 56 (0, 0)) (by (with_reducible repeat (first|refine bN_ ?_ _|refine bD_ ?_|refine bA_ ?_ _)); exact BK136.out)) : gb136 ≠ gb145))
     have n14_:=K_ ((by rw [hg]; exact Nat.ne_of_gt (blk_lt (g := gb136) (o := .cells #[.int .u64 t142, .int .i64 t143] 56 (0, 0)) (by (with_reducible repeat (first|refine bN_ ?_ _|refine bD_ ?_|refine bA_ ?_ _)); exact BK136.out)) : gb145 ≠ gb136))
     have n15_:=K_ ((by rw [hg]; exact Nat.ne_of_lt (blk_lt (g := gb144) (o := .cells #[.int .u64 0, .int .i64 0] 58 (0, 0)) (by (with_reducible repeat (first|refine bN_ ?_ _|refine bD_ ?_|refine bA_ ?_ _)); exact BK144.out)) : gb144 ≠ gb145))
     have n16_:=K_ ((by rw [hg]; exact Nat.ne_of_gt (blk_lt (g := gb144) (o := .cells #[.int .u64 0, .int .i64 0] 58 (0, 0)) (by (with_reducible repeat (first|refine bN_ ?_ _|refine bD_ ?_|refine bA_ ?_ _)); exact BK144.out)) : gb145 ≠ gb144))
     have n17_:=K_ ((by rw [hg]; exact Nat.ne_of_lt (blk_lt (g := gb146) (o := .cells #[.int .u64 0, .int .i64 0] 58 (0, 0)) (by (with_reducible repeat (first|refine bN_ ?_ _|refine bD_ ?_|refine bA_ ?_ _)); exact BK146.out)) : gb146 ≠ gb145))
     have n18_:=K_ ((by rw [hg]; exact Nat.ne_of_gt (blk_lt (g := gb146) (o := .cells #[.int .u64 0, .int .i64 0] 58 (0, 0)) (by (with_reducible repeat (first|refine bN_ ?_ _|refine bD_ ?_|refine bA_ ?_ _)); exact BK146.out)) : gb145 ≠ gb146))
     clear BK134
     clear BK135
     clear BK136
     clear BK144
     clear BK146
     clear HB
     have BK134:=n0_
     have BK135:=n1_
     have BK136:=n2_
     have BK144:=n3_
     have BK146:=n4_
     have HB:=n5_
     have BK145:=n6_
     have GW145:=n7_
     have GE145:=n8_
     have NB134_145:=n9_
     have NB145_134:=n10_
     have NB135_145:=n11_
     have NB145_135:=n12_
     have NB136_145:=n13_
     have NB145_136:=n14_
     have NB144_145:=n15_
     have NB145_144:=n16_
     have NB146_145:=n17_
     have NB145_146:=n18_
     clear n0_ n1_ n2_ n3_ n4_ n5_ n6_ n7_ n8_ n9_ n10_ n11_ n12_ n13_ n14_ n15_ n16_ n17_ n18_
     clear hb hbox hg
     refine hK.out _ _ ⟨(blk_cell BK134.out 0).trans rfl, (blk_cell BK134.out 1).trans rfl, (blk_cell BK135.out 0).trans rfl, (blk_cell BK135.out 1).trans rfl, (blk_cell BK136.out 0).trans rfl, (blk_cell BK136.out 1).trans rfl⟩ (fun hHeld => ?_)
     clear hK K
     refine norm_ (a' := ?_) ?_ ?_
     rotate_left
     ·
      show Act.put _ (some 8) _ = _
      simp only [Act.put, e1_, e2_, e3_, i64_w, i32_w]
      rfl
     exact norm_ (by first|(simp only [putAll, Act.put, List.setIfInBounds_toArray, List.set_cons_zero, List.set_cons_succ]; done)|(simp only [putAll, Act.put, List.setIfInBounds_toArray, List.set_cons_zero, List.set_cons_succ]; rfl)) (hJ3_4_5 (gb144, gb145, gb146) _ ⟨hHeld, (by (with_reducible repeat (first|refine bN_ ?_ _|refine bD_ ?_|refine bA_ ?_ _)); exact BK134.out), (by (with_reducible repeat (first|refine bN_ ?_ _|refine bD_ ?_|refine bA_ ?_ _)); exact BK135.out), (by (with_reducible repeat (first|refine bN_ ?_ _|refine bD_ ?_|refine bA_ ?_ _)); exact BK136.out), (by (with_reducible repeat (first|refine bN_ ?_ _|refine bD_ ?_|refine bA_ ?_ _)); exact BK144.out), (by (with_reducible repeat (first|refine bN_ ?_ _|refine bD_ ?_|refine bA_ ?_ _)); exact BK145.out), (by (with_reducible repeat (first|refine bN_ ?_ _|refine bD_ ?_|refine bA_ ?_ _)); exact BK146.out), GW144.out, GE144.out, NB134_144.out, NB144_134.out, NB135_144.out, NB144_135.out, NB136_144.out, NB144_136.out, NB145_144.out, NB144_145.out, NB146_144.out, NB144_146.out, GW145.out, GE145.out, NB134_145.out, NB145_134.out, NB135_145.out, NB145_135.out, NB136_145.out, NB145_136.out, NB146_145.out, NB145_146.out, GW146.out, GE146.out, NB134_146.out, NB146_134.out, NB135_146.out, NB146_135.out, NB136_146.out, NB146_136.out, (by repeat (first|(with_reducible first|exact HB.out|apply pA_|apply pN_|apply pD_|refine bS_ ?_ GE134.out|refine bS_ ?_ GE135.out|refine bS_ ?_ GE136.out|refine bS_ ?_ GE144.out|refine bS_ ?_ GE146.out|refine bS_ ?_ GE145.out)|exact HB.out))⟩)
   ·
    skip
    rintro ⟨gb144, gb145⟩ w29 ⟨hS_, h0_, h1_, h2_, h3_, h4_, h5_, h6_, h7_, h8_, h9_, h10_, h11_, h12_, h13_, h14_, h15_, h16_, h17_, h18_, h19_, h20_, h21_, h22_, h23_⟩
    have n0_ : Aside0 (w29.heap[gb134]? = some (.cells #[.int .u64 t138, .int .i64 t139] 56 (0, 0))) := ⟨h0_⟩
    have n1_ : Aside0 (w29.heap[gb135]? = some (.cells #[.int .u64 t140, .int .i64 t141] 56 (0, 0))) := ⟨h1_⟩
    have n2_ : Aside0 (w29.heap[gb136]? = some (.cells #[.int .u64 t142, .int .i64 t143] 56 (0, 0))) := ⟨h2_⟩
    have n3_ : Aside0 (w29.heap[gb144]? = some (.cells #[.int .u64 0, .int .i64 0] 58 (0, 0))) := ⟨h3_⟩
    have n4_ : Aside0 (w29.heap[gb145]? = some (.cells #[.int .u64 0, .int .i64 0] 58 (0, 0))) := ⟨h4_⟩
    have n5_ : Aside0 (w.heap.size ≤ gb144) := ⟨h5_⟩
    have n6_ : Aside0 (w.heap.size ≤ gb144) := ⟨h6_⟩
    have n7_ : Aside0 (gb134 ≠ gb144) := ⟨h7_⟩
    have n8_ : Aside0 (gb144 ≠ gb134) := ⟨h8_⟩
    have n9_ : Aside0 (gb135 ≠ gb144) := ⟨h9_⟩
    have n10_ : Aside0 (gb144 ≠ gb135) := ⟨h10_⟩
    have n11_ : Aside0 (gb136 ≠ gb144) := ⟨h11_⟩
    have n12_ : Aside0 (gb144 ≠ gb136) := ⟨h12_⟩
    have n13_ : Aside0 (gb145 ≠ gb144) := ⟨h13_⟩
    have n14_ : Aside0 (gb144 ≠ gb145) := ⟨h14_⟩
    have n15_ : Aside0 (w.heap.size ≤ gb145) := ⟨h15_⟩
    have n16_ : Aside0 (w.heap.size ≤ gb145) := ⟨h16_⟩
    have n17_ : Aside0 (gb134 ≠ gb145) := ⟨h17_⟩
    have n18_ : Aside0 (gb145 ≠ gb134) := ⟨h18_⟩
    have n19_ : Aside0 (gb135 ≠ gb145) := ⟨h19_⟩
    have n20_ : Aside0 (gb145 ≠ gb135) := ⟨h20_⟩
    have n21_ : Aside0 (gb136 ≠ gb145) := ⟨h21_⟩
    have n22_ : Aside0 (gb145 ≠ gb136) := ⟨h22_⟩
    have n23_ : Aside0 (Below w.heap.size w w29) := ⟨h23_⟩
    clear BK134
    clear BK135
    clear BK136
    clear HB
    clear h0_ h1_ h2_ h3_ h4_ h5_ h6_ h7_ h8_ h9_ h10_ h11_ h12_ h13_ h14_ h15_ h16_ h17_ h18_ h19_ h20_ h21_ h22_ h23_
    have BK134:=n0_
    have BK135:=n1_
    have BK136:=n2_
    have BK144:=n3_
    have BK145:=n4_
    have GW144:=n5_
    have GE144:=n6_
    have NB134_144:=n7_
    have NB144_134:=n8_
    have NB135_144:=n9_
    have NB144_135:=n10_
    have NB136_144:=n11_
    have NB144_136:=n12_
    have NB145_144:=n13_
    have NB144_145:=n14_
    have GW145:=n15_
    have GE145:=n16_
    have NB134_145:=n17_
    have NB145_134:=n18_
    have NB135_145:=n19_
    have NB145_135:=n20_
    have NB136_145:=n21_
    have NB145_136:=n22_
    have HB:=n23_
    clear n0_ n1_ n2_ n3_ n4_ n5_ n6_ n7_ n8_ n9_ n10_ n11_ n12_ n13_ n14_ n15_ n16_ n17_ n18_ n19_ n20_ n21_ n22_ n23_
    have hHeld : w29.cell? ⟨gb134, 0, none⟩ = some (.int .u64 t138) ∧ w29.cell? ⟨gb134, 1, none⟩ = some (.int .i64 t139) ∧ w29.cell? ⟨gb135, 0, none⟩ = some (.int .u64 t140) ∧ w29.cell? ⟨gb135, 1, none⟩ = some (.int .i64 t141) ∧ w29.cell? ⟨gb136, 0, none⟩ = some (.int .u64 t142) ∧ w29.cell? ⟨gb136, 1, none⟩ = some (.int .i64 t143) := hS_
    refine norm_ (a' := ?_) ?_ ?_
    rotate_left
    ·
     simp only [putAll, Act.put, List.setIfInBounds_toArray, List.set_cons_zero, List.set_cons_succ]
     rfl
    refine one_ (i := 5) (N := some 9) qm6 rfl rfl (one_of HT_.out (by kernel_rfl)) (by decide) (fun K hK => ?_)
    refine box_step ?hg (N := 9) ?hd (cs := #[.int .u64 0, .int .i64 0]) (t := 58) ?hr ?_; (case hd => rfl); (case hg => rfl); (case hr => first|(go_simp; done)|(go_simp; rfl))
    intro gb146 hg w30 hbox hb
    have n0_:=K_ (blk_below (g := gb134) (o := .cells #[.int .u64 t138, .int .i64 t139] 56 (0, 0)) (by (with_reducible repeat (first|refine bN_ ?_ _|refine bD_ ?_|refine bA_ ?_ _)); exact BK134.out) hb)
    have n1_:=K_ (blk_below (g := gb135) (o := .cells #[.int .u64 t140, .int .i64 t141] 56 (0, 0)) (by (with_reducible repeat (first|refine bN_ ?_ _|refine bD_ ?_|refine bA_ ?_ _)); exact BK135.out) hb)
    have n2_:=K_ (blk_below (g := gb136) (o := .cells #[.int .u64 t142, .int .i64 t143] 56 (0, 0)) (by (with_reducible repeat (first|refine bN_ ?_ _|refine bD_ ?_|refine bA_ ?_ _)); exact BK136.out) hb)
    have n3_:=K_ (blk_below (g := gb144) (o := .cells #[.int .u64 0, .int .i64 0] 58 (0, 0)) (by (with_reducible repeat (first|refine bN_ ?_ _|refine bD_ ?_|refine bA_ ?_ _)); exact BK144.out) hb)
    have n4_:=K_ (blk_below (g := gb145) (o := .cells #[.int .u64 0, .int .i64 0] 58 (0, 0)) (by (with_reducible repeat (first|refine bN_ ?_ _|refine bD_ ?_|refine bA_ ?_ _)); exact BK145.out) hb)
    have n5_:=K_ (below_step (by repeat (first|(with_reducible first|exact HB.out|apply pA_|apply pN_|apply pD_|refine bS_ ?_ GE134.out|refine bS_ ?_ GE135.out|refine bS_ ?_ GE136.out|refine bS_ ?_ GE144.out|refine bS_ ?_ GE145.out)|exact HB.out)) hb)
    have n6_:=K_ (hbox)
    have n7_:=K_ ((by rw [hg]; exact (below_size (by repeat (first|(with_reducible first|exact HB.out|apply pA_|apply pN_|apply pD_|refine bS_ ?_ GE134.out|refine bS_ ?_ GE135.out|refine bS_ ?_ GE136.out|refine bS_ ?_ GE144.out|refine bS_ ?_ GE145.out)|exact HB.out))) : w.heap.size ≤ gb146))
    have n8_:=K_ ((by rw [hg]; exact (below_size (by repeat (first|(with_reducible first|exact HB.out|apply pA_|apply pN_|apply pD_|refine bS_ ?_ GE134.out|refine bS_ ?_ GE135.out|refine bS_ ?_ GE136.out|refine bS_ ?_ GE144.out|refine bS_ ?_ GE145.out)|exact HB.out))) : w.heap.size ≤ gb146))
    have n9_:=K_ ((by rw [hg]; exact Nat.ne_of_lt (blk_lt (g := gb134) (o := .cells #[.int .u64 t138, .int .i64 t139] 56 (0, 0)) (by (with_reducible repeat (first|refine bN_ ?_ _|refine bD_ ?_|refine bA_ ?_ _)); exact BK134.out)) : gb134 ≠ gb146))
    have n10_:=K_ ((by rw [hg]; exact Nat.ne_of_gt (blk_lt (g := gb134) (o := .cells #[.int .u64 t138, .int .i64 t139] 56 (0, 0)) (by (with_reducible repeat (first|refine bN_ ?_ _|refine bD_ ?_|refine bA_ ?_ _)); exact BK134.out)) : gb146 ≠ gb134))
    have n11_:=K_ ((by rw [hg]; exact Nat.ne_of_lt (blk_lt (g := gb135) (o := .cells #[.int .u64 t140, .int .i64 t141] 56 (0, 0)) (by (with_reducible repeat (first|refine bN_ ?_ _|refine bD_ ?_|refine bA_ ?_ _)); exact BK135.out)) : gb135 ≠ gb146))
    have n12_:=K_ ((by rw [hg]; exact Nat.ne_of_gt (blk_lt (g := gb135) (o := .cells #[.int .u64 t140, .int .i64 t141] 56 (0, 0)) (by (with_reducible repeat (first|refine bN_ ?_ _|refine bD_ ?_|refine bA_ ?_ _)); exact BK135.out)) : gb146 ≠ gb135))
    have n13_:=K_ ((by rw [hg]; exact Nat.ne_of_lt (blk_lt (g := gb136) (o := .cells #[.int .u64 t142, .int .i64 t143] 56 (0, 0)) (by (with_reducible repeat (first|refine bN_ ?_ _|refine bD_ ?_|refine bA_ ?_ _)); exact BK136.out)) : gb136 ≠ gb146))
    have n14_:=K_ ((by rw [hg]; exact Nat.ne_of_gt (blk_lt (g := gb136) (o := .cells #[.int .u64 t142, .int .i64 t143] 56 (0, 0)) (by (with_reducible repeat (first|refine bN_ ?_ _|refine bD_ ?_|refine bA_ ?_ _)); exact BK136.out)) : gb146 ≠ gb136))
    have n15_:=K_ ((by rw [hg]; exact Nat.ne_of_lt (blk_lt (g := gb144) (o := .cells #[.int .u64 0, .int .i64 0] 58 (0, 0)) (by (with_reducible repeat (first|refine bN_ ?_ _|refine bD_ ?_|refine bA_ ?_ _)); exact BK144.out)) : gb144 ≠ gb146))
    have n16_:=K_ ((by rw [hg]; exact Nat.ne_of_gt (blk_lt (g := gb144) (o := .cells #[.int .u64 0, .int .i64 0] 58 (0, 0)) (by (with_reducible repeat (first|refine bN_ ?_ _|refine bD_ ?_|refine bA_ ?_ _)); exact BK144.out)) : gb146 ≠ gb144))
    have n17_:=K_ ((by rw [hg]; exact Nat.ne_of_lt (blk_lt (g := gb145) (o := .cells #[.int .u64 0, .int .i64 0] 58 (0, 0)) (by (with_reducible repeat (first|refine bN_ ?_ _|refine bD_ ?_|refine bA_ ?_ _)); exact BK145.out)) : gb145 ≠ gb146))
    have n18_:=K_ ((by rw [hg]; exact Nat.ne_of_gt (blk_lt (g := gb145) (o := .cells #[.int .u64 0, .int .i64 0] 58 (0, 0)) (by (with_reducible repeat (first|refine bN_ ?_ _|refine bD_ ?_|refine bA_ ?_ _)); exact BK145.out)) : gb146 ≠ gb145))
    clear BK134
    clear BK135
    clear BK136
    clear BK144
    clear BK145
    clear HB
    have BK134:=n0_
    have BK135:=n1_
    have BK136:=n2_
    have BK144:=n3_
    have BK145:=n4_
    have HB:=n5_
    have BK146:=n6_
    have GW146:=n7_
    have GE146:=n8_
    have NB134_146:=n9_
    have NB146_134:=n10_
    have NB135_146:=n11_
    have NB146_135:=n12_
    have NB136_146:=n13_
    have NB146_136:=n14_
    have NB144_146:=n15_
    have NB146_144:=n16_
    have NB145_146:=n17_
    have NB146_145:=n18_
    clear n0_ n1_ n2_ n3_ n4_ n5_ n6_ n7_ n8_ n9_ n10_ n11_ n12_ n13_ n14_ n15_ n16_ n17_ n18_
    clear hb hbox hg
    refine hK.out _ _ ⟨(blk_cell BK134.out 0).trans rfl, (blk_cell BK134.out 1).trans rfl, (blk_cell BK135.out 0).trans rfl, (blk_cell BK135.out 1).trans rfl, (blk_cell BK136.out 0).trans rfl, (blk_cell BK136.out 1).trans rfl⟩ (fun hHeld => ?_)
    clear hK K
    refine norm_ (a' := ?_) ?_ ?_
    rotate_left
    ·
     show Act.put _ (some 9) _ = _
     simp only [Act.put, e1_, e2_, e3_, i64_w, i32_w]
     rfl
    exact norm_ (by first|(simp only [putAll, Act.put, List.setIfInBounds_toArray, List.set_cons_zero, List.set_cons_succ]; done)|(simp only [putAll, Act.put, List.setIfInBounds_toArray, List.set_cons_zero, List.set_cons_succ]; rfl)) (hJ3_4_5 (gb144, gb145, gb146) _ ⟨hHeld, (by (with_reducible repeat (first|refine bN_ ?_ _|refine bD_ ?_|refine bA_ ?_ _)); exact BK134.out), (by (with_reducible repeat (first|refine bN_ ?_ _|refine bD_ ?_|refine bA_ ?_ _)); exact BK135.out), (by (with_reducible repeat (first|refine bN_ ?_ _|refine bD_ ?_|refine bA_ ?_ _)); exact BK136.out), (by (with_reducible repeat (first|refine bN_ ?_ _|refine bD_ ?_|refine bA_ ?_ _)); exact BK144.out), (by (with_reducible repeat (first|refine bN_ ?_ _|refine bD_ ?_|refine bA_ ?_ _)); exact BK145.out), (by (with_reducible repeat (first|refine bN_ ?_ _|refine bD_ ?_|refine bA_ ?_ _)); exact BK146.out), GW144.out, GE144.out, NB134_144.out, NB144_134.out, NB135_144.out, NB144_135.out, NB136_144.out, NB144_136.out, NB145_144.out, NB144_145.out, NB146_144.out, NB144_146.out, GW145.out, GE145.out, NB134_145.out, NB145_134.out, NB135_145.out, NB145_135.out, NB136_145.out, NB145_136.out, NB146_145.out, NB145_146.out, GW146.out, GE146.out, NB134_146.out, NB146_134.out, NB135_146.out, NB146_135.out, NB136_146.out, NB146_136.out, (by repeat (first|(with_reducible first|exact HB.out|apply pA_|apply pN_|apply pD_|refine bS_ ?_ GE134.out|refine bS_ ?_ GE135.out|refine bS_ ?_ GE136.out|refine bS_ ?_ GE144.out|refine bS_ ?_ GE145.out|refine bS_ ?_ GE146.out)|exact HB.out))⟩)
  rintro ⟨gb144, gb145, gb146⟩ w30 ⟨hS_, h0_, h1_, h2_, h3_, h4_, h5_, h6_, h7_, h8_, h9_, h10_, h11_, h12_, h13_, h14_, h15_, h16_, h17_, h18_, h19_, h20_, h21_, h22_, h23_, h24_, h25_, h26_, h27_, h28_, h29_, h30_, h31_, h32_, h33_, h34_, h35_, h36_⟩
  have n0_ : Aside0 (w30.heap[gb134]? = some (.cells #[.int .u64 t138, .int .i64 t139] 56 (0, 0))) := ⟨h0_⟩
  have n1_ : Aside0 (w30.heap[gb135]? = some (.cells #[.int .u64 t140, .int .i64 t141] 56 (0, 0))) := ⟨h1_⟩
  have n2_ : Aside0 (w30.heap[gb136]? = some (.cells #[.int .u64 t142, .int .i64 t143] 56 (0, 0))) := ⟨h2_⟩
  have n3_ : Aside0 (w30.heap[gb144]? = some (.cells #[.int .u64 0, .int .i64 0] 58 (0, 0))) := ⟨h3_⟩
  have n4_ : Aside0 (w30.heap[gb145]? = some (.cells #[.int .u64 0, .int .i64 0] 58 (0, 0))) := ⟨h4_⟩
  have n5_ : Aside0 (w30.heap[gb146]? = some (.cells #[.int .u64 0, .int .i64 0] 58 (0, 0))) := ⟨h5_⟩
  have n6_ : Aside0 (w.heap.size ≤ gb144) := ⟨h6_⟩
  have n7_ : Aside0 (w.heap.size ≤ gb144) := ⟨h7_⟩
  have n8_ : Aside0 (gb134 ≠ gb144) := ⟨h8_⟩
  have n9_ : Aside0 (gb144 ≠ gb134) := ⟨h9_⟩
  have n10_ : Aside0 (gb135 ≠ gb144) := ⟨h10_⟩
  have n11_ : Aside0 (gb144 ≠ gb135) := ⟨h11_⟩
  have n12_ : Aside0 (gb136 ≠ gb144) := ⟨h12_⟩
  have n13_ : Aside0 (gb144 ≠ gb136) := ⟨h13_⟩
  have n14_ : Aside0 (gb145 ≠ gb144) := ⟨h14_⟩
  have n15_ : Aside0 (gb144 ≠ gb145) := ⟨h15_⟩
  have n16_ : Aside0 (gb146 ≠ gb144) := ⟨h16_⟩
  have n17_ : Aside0 (gb144 ≠ gb146) := ⟨h17_⟩
  have n18_ : Aside0 (w.heap.size ≤ gb145) := ⟨h18_⟩
  have n19_ : Aside0 (w.heap.size ≤ gb145) := ⟨h19_⟩
  have n20_ : Aside0 (gb134 ≠ gb145) := ⟨h20_⟩
  have n21_ : Aside0 (gb145 ≠ gb134) := ⟨h21_⟩
  have n22_ : Aside0 (gb135 ≠ gb145) := ⟨h22_⟩
  have n23_ : Aside0 (gb145 ≠ gb135) := ⟨h23_⟩
  have n24_ : Aside0 (gb136 ≠ gb145) := ⟨h24_⟩
  have n25_ : Aside0 (gb145 ≠ gb136) := ⟨h25_⟩
  have n26_ : Aside0 (gb146 ≠ gb145) := ⟨h26_⟩
  have n27_ : Aside0 (gb145 ≠ gb146) := ⟨h27_⟩
  have n28_ : Aside0 (w.heap.size ≤ gb146) := ⟨h28_⟩
  have n29_ : Aside0 (w.heap.size ≤ gb146) := ⟨h29_⟩
  have n30_ : Aside0 (gb134 ≠ gb146) := ⟨h30_⟩
  have n31_ : Aside0 (gb146 ≠ gb134) := ⟨h31_⟩
  have n32_ : Aside0 (gb135 ≠ gb146) := ⟨h32_⟩
  have n33_ : Aside0 (gb146 ≠ gb135) := ⟨h33_⟩
  have n34_ : Aside0 (gb136 ≠ gb146) := ⟨h34_⟩
  have n35_ : Aside0 (gb146 ≠ gb136) := ⟨h35_⟩
  have n36_ : Aside0 (Below w.heap.size w w30) := ⟨h36_⟩
  clear BK134
  clear BK135
  clear BK136
  clear HB
  clear h0_ h1_ h2_ h3_ h4_ h5_ h6_ h7_ h8_ h9_ h10_ h11_ h12_ h13_ h14_ h15_ h16_ h17_ h18_ h19_ h20_ h21_ h22_ h23_ h24_ h25_ h26_ h27_ h28_ h29_ h30_ h31_ h32_ h33_ h34_ h35_ h36_
  have BK134:=n0_
  have BK135:=n1_
  have BK136:=n2_
  have BK144:=n3_
  have BK145:=n4_
  have BK146:=n5_
  have GW144:=n6_
  have GE144:=n7_
  have NB134_144:=n8_
  have NB144_134:=n9_
  have NB135_144:=n10_
  have NB144_135:=n11_
  have NB136_144:=n12_
  have NB144_136:=n13_
  have NB145_144:=n14_
  have NB144_145:=n15_
  have NB146_144:=n16_
  have NB144_146:=n17_
  have GW145:=n18_
  have GE145:=n19_
  have NB134_145:=n20_
  have NB145_134:=n21_
  have NB135_145:=n22_
  have NB145_135:=n23_
  have NB136_145:=n24_
  have NB145_136:=n25_
  have NB146_145:=n26_
  have NB145_146:=n27_
  have GW146:=n28_
  have GE146:=n29_
  have NB134_146:=n30_
  have NB146_134:=n31_
  have NB135_146:=n32_
  have NB146_135:=n33_
  have NB136_146:=n34_
  have NB146_136:=n35_
  have HB:=n36_
  clear n0_ n1_ n2_ n3_ n4_ n5_ n6_ n7_ n8_ n9_ n10_ n11_ n12_ n13_ n14_ n15_ n16_ n17_ n18_ n19_ n20_ n21_ n22_ n23_ n24_ n25_ n26_ n27_ n28_ n29_ n30_ n31_ n32_ n33_ n34_ n35_ n36_
  have hHeld : w30.cell? ⟨gb134, 0, none⟩ = some (.int .u64 t138) ∧ w30.cell? ⟨gb134, 1, none⟩ = some (.int .i64 t139) ∧ w30.cell? ⟨gb135, 0, none⟩ = some (.int .u64 t140) ∧ w30.cell? ⟨gb135, 1, none⟩ = some (.int .i64 t141) ∧ w30.cell? ⟨gb136, 0, none⟩ = some (.int .u64 t142) ∧ w30.cell? ⟨gb136, 1, none⟩ = some (.int .i64 t143) := hS_
  refine norm_ (a' := ?_) ?_ ?_
  rotate_left
  ·
   simp only [putAll, Act.put, List.setIfInBounds_toArray, List.set_cons_zero, List.set_cons_succ]
   rfl
  refine one_ (i := 6) (N := none) qm7 rfl rfl (one_of HT_.out (by kernel_rfl)) (by decide) (fun K hK => ?_)
  have hs31 : w30.cell? ⟨gb144, 0, none⟩ = some (.int .u64 0) := (blk_cell BK144.out 0).trans rfl
  have hfs31:=blk_frozen BK144.out 0
  have hns31_0:=NB134_144.out
  have hns31_1:=NB135_144.out
  have hns31_2:=NB136_144.out
  have hns31_4:=NB145_144.out
  have hns31_5:=NB146_144.out
  have hms31_0:=NB144_134.out
  have hms31_1:=NB144_135.out
  have hms31_2:=NB144_136.out
  have hms31_4:=NB144_145.out
  have hms31_5:=NB144_146.out
  have hs32 : w30.cell? ⟨gb144, 1, none⟩ = some (.int .i64 0) := (blk_cell BK144.out 1).trans rfl
  have hfs32:=blk_frozen BK144.out 1
  have hns32_0:=NB134_144.out
  have hns32_1:=NB135_144.out
  have hns32_2:=NB136_144.out
  have hns32_4:=NB145_144.out
  have hns32_5:=NB146_144.out
  have hms32_0:=NB144_134.out
  have hms32_1:=NB144_135.out
  have hms32_2:=NB144_136.out
  have hms32_4:=NB144_145.out
  have hms32_5:=NB144_146.out
  refine skip_ (w1 := ?_) (by rfl) rfl ?_ ?_
  rotate_left
  ·
   go_simp
   rfl
  refine hK.out _ _ ⟨((cell_far (p := ⟨gb144, _, none⟩) NB134_144.out _).trans (((cell_far (p := ⟨gb144, _, none⟩) NB134_144.out _).trans (hHeld.1)))), ((cell_far (p := ⟨gb144, _, none⟩) NB134_144.out _).trans (((cell_far (p := ⟨gb144, _, none⟩) NB134_144.out _).trans (hHeld.2.1)))), ((cell_far (p := ⟨gb144, _, none⟩) NB135_144.out _).trans (((cell_far (p := ⟨gb144, _, none⟩) NB135_144.out _).trans (hHeld.2.2.1)))), ((cell_far (p := ⟨gb144, _, none⟩) NB135_144.out _).trans (((cell_far (p := ⟨gb144, _, none⟩) NB135_144.out _).trans (hHeld.2.2.2.1)))), ((cell_far (p := ⟨gb144, _, none⟩) NB136_144.out _).trans (((cell_far (p := ⟨gb144, _, none⟩) NB136_144.out _).trans (hHeld.2.2.2.2.1)))), ((cell_far (p := ⟨gb144, _, none⟩) NB136_144.out _).trans (((cell_far (p := ⟨gb144, _, none⟩) NB136_144.out _).trans (hHeld.2.2.2.2.2))))⟩ (fun hHeld => ?_)
  clear hK K
  refine one_ (i := 7) (N := none) qm8 rfl rfl (one_of HT_.out (by kernel_rfl)) (by decide) (fun K hK => ?_)
  have hs33 : w30.cell? ⟨gb145, 0, none⟩ = some (.int .u64 0) := (blk_cell BK145.out 0).trans rfl
  have hfs33:=blk_frozen BK145.out 0
  have hns33_0:=NB134_145.out
  have hns33_1:=NB135_145.out
  have hns33_2:=NB136_145.out
  have hns33_3:=NB144_145.out
  have hns33_5:=NB146_145.out
  have hms33_0:=NB145_134.out
  have hms33_1:=NB145_135.out
  have hms33_2:=NB145_136.out
  have hms33_3:=NB145_144.out
  have hms33_5:=NB145_146.out
  have hs34 : w30.cell? ⟨gb145, 1, none⟩ = some (.int .i64 0) := (blk_cell BK145.out 1).trans rfl
  have hfs34:=blk_frozen BK145.out 1
  have hns34_0:=NB134_145.out
  have hns34_1:=NB135_145.out
  have hns34_2:=NB136_145.out
  have hns34_3:=NB144_145.out
  have hns34_5:=NB146_145.out
  have hms34_0:=NB145_134.out
  have hms34_1:=NB145_135.out
  have hms34_2:=NB145_136.out
  have hms34_3:=NB145_144.out
  have hms34_5:=NB145_146.out
  refine skip_ (w1 := ?_) (by rfl) rfl ?_ ?_
  rotate_left
  ·
   go_simp
   rfl
  refine hK.out _ _ ⟨((cell_far (p := ⟨gb145, _, none⟩) NB134_145.out _).trans (((cell_far (p := ⟨gb145, _, none⟩) NB134_145.out _).trans (hHeld.1)))), ((cell_far (p := ⟨gb145, _, none⟩) NB134_145.out _).trans (((cell_far (p := ⟨gb145, _, none⟩) NB134_145.out _).trans (hHeld.2.1)))), ((cell_far (p := ⟨gb145, _, none⟩) NB135_145.out _).trans (((cell_far (p := ⟨gb145, _, none⟩) NB135_145.out _).trans (hHeld.2.2.1)))), ((cell_far (p := ⟨gb145, _, none⟩) NB135_145.out _).trans (((cell_far (p := ⟨gb145, _, none⟩) NB135_145.out _).trans (hHeld.2.2.2.1)))), ((cell_far (p := ⟨gb145, _, none⟩) NB136_145.out _).trans (((cell_far (p := ⟨gb145, _, none⟩) NB136_145.out _).trans (hHeld.2.2.2.2.1)))), ((cell_far (p := ⟨gb145, _, none⟩) NB136_145.out _).trans (((cell_far (p := ⟨gb145, _, none⟩) NB136_145.out _).trans (hHeld.2.2.2.2.2))))⟩ (fun hHeld => ?_)
  clear hK K
  refine one_ (i := 8) (N := none) qm9 rfl rfl (one_of HT_.out (by kernel_rfl)) (by decide) (fun K hK => ?_)
  have hs35 : w30.cell? ⟨gb146, 0, none⟩ = some (.int .u64 0) := (blk_cell BK146.out 0).trans rfl
  have hfs35:=blk_frozen BK146.out 0
  have hns35_0:=NB134_146.out
  have hns35_1:=NB135_146.out
  have hns35_2:=NB136_146.out
  have hns35_3:=NB144_146.out
  have hns35_4:=NB145_146.out
  have hms35_0:=NB146_134.out
  have hms35_1:=NB146_135.out
  have hms35_2:=NB146_136.out
  have hms35_3:=NB146_144.out
  have hms35_4:=NB146_145.out
  have hs36 : w30.cell? ⟨gb146, 1, none⟩ = some (.int .i64 0) := (blk_cell BK146.out 1).trans rfl
  have hfs36:=blk_frozen BK146.out 1
  have hns36_0:=NB134_146.out
  have hns36_1:=NB135_146.out
  have hns36_2:=NB136_146.out
  have hns36_3:=NB144_146.out
  have hns36_4:=NB145_146.out
  have hms36_0:=NB146_134.out
  have hms36_1:=NB146_135.out
  have hms36_2:=NB146_136.out
  have hms36_3:=NB146_144.out
  have hms36_4:=NB146_145.out
  refine skip_ (w1 := ?_) (by rfl) rfl ?_ ?_
  rotate_left
  ·
   go_simp
   rfl
  refine hK.out _ _ ⟨((cell_far (p := ⟨gb146, _, none⟩) NB134_146.out _).trans (((cell_far (p := ⟨gb146, _, none⟩) NB134_146.out _).trans (hHeld.1)))), ((cell_far (p := ⟨gb146, _, none⟩) NB134_146.out _).trans (((cell_far (p := ⟨gb146, _, none⟩) NB134_146.out _).trans (hHeld.2.1)))), ((cell_far (p := ⟨gb146, _, none⟩) NB135_146.out _).trans (((cell_far (p := ⟨gb146, _, none⟩) NB135_146.out _).trans (hHeld.2.2.1)))), ((cell_far (p := ⟨gb146, _, none⟩) NB135_146.out _).trans (((cell_far (p := ⟨gb146, _, none⟩) NB135_146.out _).trans (hHeld.2.2.2.1)))), ((cell_far (p := ⟨gb146, _, none⟩) NB136_146.out _).trans (((cell_far (p := ⟨gb146, _, none⟩) NB136_146.out _).trans (hHeld.2.2.2.2.1)))), ((cell_far (p := ⟨gb146, _, none⟩) NB136_146.out _).trans (((cell_far (p := ⟨gb146, _, none⟩) NB136_146.out _).trans (hHeld.2.2.2.2.2))))⟩ (fun hHeld => ?_)
  clear hK K
  refine done_ (done_of HT_.out (by kernel_rfl)) ?_
  have hnb37:=NB144_134.out
  have hnc37:=NB134_144.out
  have hnb38:=NB144_135.out
  have hnc38:=NB135_144.out
  have hnb39:=NB144_136.out
  have hnc39:=NB136_144.out
  have hnb40:=NB144_145.out
  have hnc40:=NB145_144.out
  have hnb41:=NB144_146.out
  have hnc41:=NB146_144.out
  have hcz42_0 : w30.cell? ⟨gb144, 0, none⟩ = some (.int .u64 0) := (blk_cell BK144.out 0).trans rfl
  have hcz42_1 : w30.cell? ⟨gb144, 1, none⟩ = some (.int .i64 0) := (blk_cell BK144.out 1).trans rfl
  have hfz42_0:=blk_frozen BK144.out 0
  have hfz42_1:=blk_frozen BK144.out 1
  have hnb43:=NB145_134.out
  have hnc43:=NB134_145.out
  have hnb44:=NB145_135.out
  have hnc44:=NB135_145.out
  have hnb45:=NB145_136.out
  have hnc45:=NB136_145.out
  have hnb46:=NB145_146.out
  have hnc46:=NB146_145.out
  have hcz47_0 : w30.cell? ⟨gb145, 0, none⟩ = some (.int .u64 0) := (blk_cell BK145.out 0).trans rfl
  have hcz47_1 : w30.cell? ⟨gb145, 1, none⟩ = some (.int .i64 0) := (blk_cell BK145.out 1).trans rfl
  have hfz47_0:=blk_frozen BK145.out 0
  have hfz47_1:=blk_frozen BK145.out 1
  go_upto_region 6 with (first|((with_reducible refine gate_callee (f := 40) rfl ?_); refine goesL_ (some 25) rfl rfl Try.func40 (by kernel_rfl) rfl #[.agg #[.int .u64 t138, .int .i64 t139], .agg #[.int .u64 t140, .int .i64 t141]] rfl (by (try simp only [List.map_toArray, List.map_cons, List.map_nil]); first|done|rfl|(simp only [List.length_drop, List.length_take]; rfl)) ?_; (with_reducible refine (ballot_Compare.calls k t138 t139 t140 t141 t147 _ A9.out).mono ?_); rintro e w48 ⟨rfl, hb⟩; refine ⟨_, rfl, ?_⟩; have n0_:=K_ (blk_below (g := gb134) (o := .cells #[.int .u64 t138, .int .i64 t139] 56 (0, 0)) (by (with_reducible repeat (first|refine bN_ ?_ _|refine bD_ ?_|refine bA_ ?_ _)); refine blk_far ?_ NB134_146.out _; (with_reducible repeat (first|refine bN_ ?_ _|refine bD_ ?_|refine bA_ ?_ _)); refine blk_far ?_ NB134_146.out _; (with_reducible repeat (first|refine bN_ ?_ _|refine bD_ ?_|refine bA_ ?_ _)); refine blk_far ?_ NB134_145.out _; (with_reducible repeat (first|refine bN_ ?_ _|refine bD_ ?_|refine bA_ ?_ _)); refine blk_far ?_ NB134_145.out _; (with_reducible repeat (first|refine bN_ ?_ _|refine bD_ ?_|refine bA_ ?_ _)); refine blk_far ?_ NB134_144.out _; (with_reducible repeat (first|refine bN_ ?_ _|refine bD_ ?_|refine bA_ ?_ _)); refine blk_far ?_ NB134_144.out _; (with_reducible repeat (first|refine bN_ ?_ _|refine bD_ ?_|refine bA_ ?_ _)); exact BK134.out) hb); have n1_:=K_ (blk_below (g := gb135) (o := .cells #[.int .u64 t140, .int .i64 t141] 56 (0, 0)) (by (with_reducible repeat (first|refine bN_ ?_ _|refine bD_ ?_|refine bA_ ?_ _)); refine blk_far ?_ NB135_146.out _; (with_reducible repeat (first|refine bN_ ?_ _|refine bD_ ?_|refine bA_ ?_ _)); refine blk_far ?_ NB135_146.out _; (with_reducible repeat (first|refine bN_ ?_ _|refine bD_ ?_|refine bA_ ?_ _)); refine blk_far ?_ NB135_145.out _; (with_reducible repeat (first|refine bN_ ?_ _|refine bD_ ?_|refine bA_ ?_ _)); refine blk_far ?_ NB135_145.out _; (with_reducible repeat (first|refine bN_ ?_ _|refine bD_ ?_|refine bA_ ?_ _)); refine blk_far ?_ NB135_144.out _; (with_reducible repeat (first|refine bN_ ?_ _|refine bD_ ?_|refine bA_ ?_ _)); refine blk_far ?_ NB135_144.out _; (with_reducible repeat (first|refine bN_ ?_ _|refine bD_ ?_|refine bA_ ?_ _)); exact BK135.out) hb); have n2_:=K_ (blk_below (g := gb136) (o := .cells #[.int .u64 t142, .int .i64 t143] 56 (0, 0)) (by (with_reducible repeat (first|refine bN_ ?_ _|refine bD_ ?_|refine bA_ ?_ _)); refine blk_far ?_ NB136_146.out _; (with_reducible repeat (first|refine bN_ ?_ _|refine bD_ ?_|refine bA_ ?_ _)); refine blk_far ?_ NB136_146.out _; (with_reducible repeat (first|refine bN_ ?_ _|refine bD_ ?_|refine bA_ ?_ _)); refine blk_far ?_ NB136_145.out _; (with_reducible repeat (first|refine bN_ ?_ _|refine bD_ ?_|refine bA_ ?_ _)); refine blk_far ?_ NB136_145.out _; (with_reducible repeat (first|refine bN_ ?_ _|refine bD_ ?_|refine bA_ ?_ _)); refine blk_far ?_ NB136_144.out _; (with_reducible repeat (first|refine bN_ ?_ _|refine bD_ ?_|refine bA_ ?_ _)); refine blk_far ?_ NB136_144.out _; (with_reducible repeat (first|refine bN_ ?_ _|refine bD_ ?_|refine bA_ ?_ _)); exact BK136.out) hb); have n3_:=K_ (blk_below (g := gb144) (o := .cells #[.int .u64 t138, .int .i64 t139] 58 (0, 0)) (by (with_reducible repeat (first|refine bN_ ?_ _|refine bD_ ?_|refine bA_ ?_ _)); refine blk_far ?_ NB144_146.out _; (with_reducible repeat (first|refine bN_ ?_ _|refine bD_ ?_|refine bA_ ?_ _)); refine blk_far ?_ NB144_146.out _; (with_reducible repeat (first|refine bN_ ?_ _|refine bD_ ?_|refine bA_ ?_ _)); refine blk_far ?_ NB144_145.out _; (with_reducible repeat (first|refine bN_ ?_ _|refine bD_ ?_|refine bA_ ?_ _)); refine blk_far ?_ NB144_145.out _; (with_reducible repeat (first|refine bN_ ?_ _|refine bD_ ?_|refine bA_ ?_ _)); refine blk_put (cs := #[.int .u64 t138, .int .i64 0]) ?_ 1 _ rfl; (with_reducible repeat (first|refine bN_ ?_ _|refine bD_ ?_|refine bA_ ?_ _)); refine blk_put (cs := #[.int .u64 0, .int .i64 0]) ?_ 0 _ rfl; (with_reducible repeat (first|refine bN_ ?_ _|refine bD_ ?_|refine bA_ ?_ _)); exact BK144.out) hb); have n4_:=K_ (blk_below (g := gb145) (o := .cells #[.int .u64 t140, .int .i64 t141] 58 (0, 0)) (by (with_reducible repeat (first|refine bN_ ?_ _|refine bD_ ?_|refine bA_ ?_ _)); refine blk_far ?_ NB145_146.out _; (with_reducible repeat (first|refine bN_ ?_ _|refine bD_ ?_|refine bA_ ?_ _)); refine blk_far ?_ NB145_146.out _; (with_reducible repeat (first|refine bN_ ?_ _|refine bD_ ?_|refine bA_ ?_ _)); refine blk_put (cs := #[.int .u64 t140, .int .i64 0]) ?_ 1 _ rfl; (with_reducible repeat (first|refine bN_ ?_ _|refine bD_ ?_|refine bA_ ?_ _)); refine blk_put (cs := #[.int .u64 0, .int .i64 0]) ?_ 0 _ rfl; (with_reducible repeat (first|refine bN_ ?_ _|refine bD_ ?_|refine bA_ ?_ _)); refine blk_far ?_ NB145_144.out _; (with_reducible repeat (first|refine bN_ ?_ _|refine bD_ ?_|refine bA_ ?_ _)); refine blk_far ?_ NB145_144.out _; (with_reducible repeat (first|refine bN_ ?_ _|refine bD_ ?_|refine bA_ ?_ _)); exact BK145.out) hb); have n5_:=K_ (blk_below (g := gb146) (o := .cells #[.int .u64 t142, .int .i64 t143] 58 (0, 0)) (by (with_reducible repeat (first|refine bN_ ?_ _|refine bD_ ?_|refine bA_ ?_ _)); refine blk_put (cs := #[.int .u64 t142, .int .i64 0]) ?_ 1 _ rfl; (with_reducible repeat (first|refine bN_ ?_ _|refine bD_ ?_|refine bA_ ?_ _)); refine blk_put (cs := #[.int .u64 0, .int .i64 0]) ?_ 0 _ rfl; (with_reducible repeat (first|refine bN_ ?_ _|refine bD_ ?_|refine bA_ ?_ _)); refine blk_far ?_ NB146_145.out _; (with_reducible repeat (first|refine bN_ ?_ _|refine bD_ ?_|refine bA_ ?_ _)); refine blk_far ?_ NB146_145.out _; (with_reducible repeat (first|refine bN_ ?_ _|refine bD_ ?_|refine bA_ ?_ _)); refine blk_far ?_ NB146_144.out _; (with_reducible repeat (first|refine bN_ ?_ _|refine bD_ ?_|refine bA_ ?_ _)); refine blk_far ?_ NB146_144.out _; (with_reducible repeat (first|refine bN_ ?_ _|refine bD_ ?_|refine bA_ ?_ _)); exact BK146.out) hb); have n6_:=K_ (below_step (by repeat (first|(with_reducible first|exact HB.out|apply pA_|apply pN_|apply pD_|refine bS_ ?_ GE134.out|refine bS_ ?_ GE135.out|refine bS_ ?_ GE136.out|refine bS_ ?_ GE144.out|refine bS_ ?_ GE145.out|refine bS_ ?_ GE146.out)|exact HB.out)) hb); clear BK134; clear BK135; clear BK136; clear BK144; clear BK145; clear BK146; clear HB; have BK134:=n0_; have BK135:=n1_; have BK136:=n2_; have BK144:=n3_; have BK145:=n4_; have BK146:=n5_; have HB:=n6_; clear n0_ n1_ n2_ n3_ n4_ n5_ n6_; (try clear hb); (try clear hb2); (try clear hk); (try clear hi)))
  (try simp only [Act.put, List.setIfInBounds_toArray, List.set_cons_zero, List.set_cons_succ])
  go_cut [55] (fun v55 wc => ∃ (kq : Nat) (x55_9 : Bool), v55 = .bool x55_9 ∧ Aside0 (j0 kq x55_9 t138 t139 t140 t141 t142 t143 = some r) ∧ Aside0 (kq ≤ k) ∧ Aside0 (wc.heap[gb134]? = some (.cells #[.int .u64 t138, .int .i64 t139] 56 (0, 0))) ∧ Aside0 (wc.heap[gb135]? = some (.cells #[.int .u64 t140, .int .i64 t141] 56 (0, 0))) ∧ Aside0 (wc.heap[gb136]? = some (.cells #[.int .u64 t142, .int .i64 t143] 56 (0, 0))) ∧ Aside0 (wc.heap[gb144]? = some (.cells #[.int .u64 t138, .int .i64 t139] 58 (0, 0))) ∧ Aside0 (wc.heap[gb145]? = some (.cells #[.int .u64 t140, .int .i64 t141] 58 (0, 0))) ∧ Aside0 (wc.heap[gb146]? = some (.cells #[.int .u64 t142, .int .i64 t143] 58 (0, 0))) ∧ Aside0 (Below w.heap.size w wc))
  case first =>
   have H:=HC10.out
   clear HC10
   replace H := Option.bind_eq_some_iff.mp H
   obtain ⟨t148, A490, H⟩ := H
   replace H : (if ((decide (t147 > 0)) != t148) = true then (j0 k true t138 t139 t140 t141 t142 t143) else ((chatelaineref08_Above.f t140 t141 t138 t139).bind fun t149 => (if ((decide (t147 < 0)) != t149) = true then (j0 k true t138 t139 t140 t141 t142 t143) else (if t147 < (-1) then (j0 k true t138 t139 t140 t141 t142 t143) else (if t147 > 1 then (j0 k true t138 t139 t140 t141 t142 t143) else ((ballot_Ballot_None.f t138 t139).bind fun t150 => (j0 k (t150 != (t138 == 0 && (t139 == 0))) t138 t139 t140 t141 t142 t143))))))) = some r := H
   have A49:=K_ A490
   clear A490
   by_cases c50 : ((decide (t147 > 0)) != t148) = true
   ·
    rw [if_pos c50] at H
    have c50b0 : ((decide (t147 > 0)) != t148) = true := c50
    (try (have c50b1 : decide ((decide (t147 > 0)) = t148) = false := by simpa using c50))
    (try (have c50b2 : ((decide (t147 > 0)) == t148) = false := by simpa using c50))
    (try (have c50b3 : ¬ ((decide (t147 > 0)) = t148) := by simpa using c50))
    clear c50
    (first|rw [c50b0]|(simp only [i64_w, i32_w]; rw [c50b0])|skip)
    exfalso
    subst hr_
    cases k <;> simp [j0] at H
   ·
    rw [if_neg c50] at H
    have c50b0 : ((decide (t147 > 0)) != t148) = false := by simpa using c50
    (try (have c50b1 : decide ((decide (t147 > 0)) = t148) = true := by simpa using c50))
    (try (have c50b2 : ((decide (t147 > 0)) == t148) = true := by simpa using c50))
    clear c50
    (first|rw [c50b0]|(simp only [i64_w, i32_w]; rw [c50b0])|skip)
    replace H := Option.bind_eq_some_iff.mp H
    obtain ⟨t149, A510, H⟩ := H
    replace H : (if ((decide (t147 < 0)) != t149) = true then (j0 k true t138 t139 t140 t141 t142 t143) else (if t147 < (-1) then (j0 k true t138 t139 t140 t141 t142 t143) else (if t147 > 1 then (j0 k true t138 t139 t140 t141 t142 t143) else ((ballot_Ballot_None.f t138 t139).bind fun t150 => (j0 k (t150 != (t138 == 0 && (t139 == 0))) t138 t139 t140 t141 t142 t143))))) = some r := H
    have A51:=K_ A510
    clear A510
    by_cases c52 : ((decide (t147 < 0)) != t149) = true
    ·
     rw [if_pos c52] at H
     have c52b0 : ((decide (t147 < 0)) != t149) = true := c52
     (try (have c52b1 : decide ((decide (t147 < 0)) = t149) = false := by simpa using c52))
     (try (have c52b2 : ((decide (t147 < 0)) == t149) = false := by simpa using c52))
     (try (have c52b3 : ¬ ((decide (t147 < 0)) = t149) := by simpa using c52))
     clear c52
     exfalso
     subst hr_
     cases k <;> simp [j0] at H
    ·
     rw [if_neg c52] at H
     have c52b0 : ((decide (t147 < 0)) != t149) = false := by simpa using c52
     (try (have c52b1 : decide ((decide (t147 < 0)) = t149) = true := by simpa using c52))
     (try (have c52b2 : ((decide (t147 < 0)) == t149) = true := by simpa using c52))
     clear c52
     by_cases c53 : t147 < (-1)
     ·
      rw [if_pos c53] at H
      have c53b0 : decide (t147 < (-1)) = true := decide_eq_true c53
      clear c53
      exfalso
      subst hr_
      cases k <;> simp [j0] at H
     ·
      rw [if_neg c53] at H
      have c53b0 : decide (t147 < (-1)) = false := decide_eq_false c53
      clear c53
      by_cases c54 : t147 > 1
      ·
       rw [if_pos c54] at H
       have c54b0 : decide (1 < t147) = true := decide_eq_true c54
       clear c54
       exfalso
       subst hr_
       cases k <;> simp [j0] at H
      ·
       rw [if_neg c54] at H
       have c54b0 : decide (1 < t147) = false := decide_eq_false c54
       clear c54
       replace H := Option.bind_eq_some_iff.mp H
       obtain ⟨t150, A550, H⟩ := H
       replace H : (j0 k (t150 != (t138 == 0 && (t139 == 0))) t138 t139 t140 t141 t142 t143) = some r := H
       have A55:=K_ A550
       clear A550
       have H' := K_ H
       clear H
       try go_wp2
       have n0_:=K_ (bD_ BK134.out)
       have n1_:=K_ (bD_ BK135.out)
       have n2_:=K_ (bD_ BK136.out)
       have n3_:=K_ (bD_ BK144.out)
       have n4_:=K_ (bD_ BK145.out)
       have n5_:=K_ (bD_ BK146.out)
       have n6_:=K_ (pD_ HB.out)
       clear BK134
       clear BK135
       clear BK136
       clear BK144
       clear BK145
       clear BK146
       clear HB
       have BK134:=n0_
       have BK135:=n1_
       have BK136:=n2_
       have BK144:=n3_
       have BK145:=n4_
       have BK146:=n5_
       have HB:=n6_
       clear n0_ n1_ n2_ n3_ n4_ n5_ n6_
       refine start_ (n := 30) (S := fun w' => w'.cell? ⟨gb134, 0, none⟩ = some (.int .u64 t138) ∧ w'.cell? ⟨gb134, 1, none⟩ = some (.int .i64 t139) ∧ w'.cell? ⟨gb135, 0, none⟩ = some (.int .u64 t140) ∧ w'.cell? ⟨gb135, 1, none⟩ = some (.int .i64 t141) ∧ w'.cell? ⟨gb144, 0, none⟩ = some (.int .u64 t138) ∧ w'.cell? ⟨gb144, 1, none⟩ = some (.int .i64 t139)) (ds := []) #[false, false, false, false, false, false, false, false, false, false, false, false, false, false, false, false, false, false, false, false, false, false, false, false, false, false, false, false, false, false] (by kernel_rfl) rfl rfl ⟨(blk_cell BK134.out 0).trans rfl, (blk_cell BK134.out 1).trans rfl, (blk_cell BK135.out 0).trans rfl, (blk_cell BK135.out 1).trans rfl, (blk_cell BK144.out 0).trans rfl, (blk_cell BK144.out 1).trans rfl⟩ (fun hHeld => ?_); refine with_tabW chatelainelaw08_BallotOrder.tab6 chatelainelaw08_BallotOrder.bits6 (fun HT_ HW_ => ?_)
       generalize w48.drew = w56 at BK134 BK135 BK136 BK144 BK145 BK146 HB hHeld ⊢
       refine pure_ (i := 0) (N := some 26) (v := ?_) (a' := ?_) #[true, false, false, false, false, false, false, false, false, false, false, false, false, false, false, false, false, false, false, false, false, false, false, false, false, false, false, false, false, false] rfl rfl (any_of HT_.out (by kernel_rfl)) (fun _ _ _ h => h) (Or.inl ⟨by rfl, ?_⟩) ?_ ?_
       rotate_left
       ·
        intro w'
        go_simp
        with_reducible rfl
       rotate_left
       ·
        simp only [Act.put, e1_, e2_, e3_, i64_w, i32_w]
        rfl
       refine pure_ (i := 1) (N := some 27) (v := ?_) (a' := ?_) #[true, true, false, false, false, false, false, false, false, false, false, false, false, false, false, false, false, false, false, false, false, false, false, false, false, false, false, false, false, false] rfl rfl (any_of HT_.out (by kernel_rfl)) (fun _ _ _ h => h) (Or.inl ⟨by rfl, ?_⟩) ?_ ?_
       rotate_left
       ·
        intro w'
        go_simp
        with_reducible rfl
       rotate_left
       ·
        simp only [Act.put, e1_, e2_, e3_, i64_w, i32_w]
        rfl
       refine take_ (i := 2) (N := some 28) (v := ?_) (a' := ?_) #[true, true, true, false, false, false, false, false, false, false, false, false, false, false, false, false, false, false, false, false, false, false, false, false, false, false, false, false, false, false] rfl rfl (take_ofW HT_.out HW_.out (by kernel_rfl)) (fun _ _ _ h => h) (Or.inl ⟨by rfl, ?_⟩) hHeld ?_ ?_
       rotate_left
       ·
        rintro w' ⟨s0, s1, s2, s3, s4, s5⟩
        go_simp
        with_reducible rfl
       rotate_left
       ·
        simp only [Act.put, e1_, e2_, e3_, i64_w, i32_w]
        rfl
       refine take_ (i := 3) (N := some 29) (v := ?_) (a' := ?_) #[true, true, true, true, false, false, false, false, false, false, false, false, false, false, false, false, false, false, false, false, false, false, false, false, false, false, false, false, false, false] rfl rfl (take_ofW HT_.out HW_.out (by kernel_rfl)) (fun _ _ _ h => h) (Or.inl ⟨by rfl, ?_⟩) hHeld ?_ ?_
       rotate_left
       ·
        rintro w' ⟨s0, s1, s2, s3, s4, s5⟩
        go_simp
        with_reducible rfl
       rotate_left
       ·
        simp only [Act.put, e1_, e2_, e3_, i64_w, i32_w]
        rfl
       refine one_ (i := 4) (N := some 30) #[true, true, true, true, true, false, false, false, false, false, false, false, false, false, false, false, false, false, false, false, false, false, false, false, false, false, false, false, false, false] rfl rfl (one_of HT_.out (by kernel_rfl)) (by decide) (fun K hK => ?_)
       refine goes_ Try.func41 (by kernel_rfl) rfl #[.agg #[.int .u64 t138, .int .i64 t139], .agg #[.int .u64 t140, .int .i64 t141]] (by rfl) rfl rfl (by (try simp only [List.map_toArray, List.map_cons, List.map_nil]); first|done|rfl|(simp only [List.length_drop, List.length_take]; rfl)) ?_
       with_reducible refine (chatelaineref08_Above.calls t138 t139 t140 t141 t148 _ A49.out).mono ?_
       rintro e w57 ⟨rfl, hb⟩
       refine ⟨_, rfl, ?_⟩
       have n0_:=K_ (blk_below (g := gb134) (o := .cells #[.int .u64 t138, .int .i64 t139] 56 (0, 0)) (by (with_reducible repeat (first|refine bN_ ?_ _|refine bD_ ?_|refine bA_ ?_ _)); exact BK134.out) hb)
       have n1_:=K_ (blk_below (g := gb135) (o := .cells #[.int .u64 t140, .int .i64 t141] 56 (0, 0)) (by (with_reducible repeat (first|refine bN_ ?_ _|refine bD_ ?_|refine bA_ ?_ _)); exact BK135.out) hb)
       have n2_:=K_ (blk_below (g := gb136) (o := .cells #[.int .u64 t142, .int .i64 t143] 56 (0, 0)) (by (with_reducible repeat (first|refine bN_ ?_ _|refine bD_ ?_|refine bA_ ?_ _)); exact BK136.out) hb)
       have n3_:=K_ (blk_below (g := gb144) (o := .cells #[.int .u64 t138, .int .i64 t139] 58 (0, 0)) (by (with_reducible repeat (first|refine bN_ ?_ _|refine bD_ ?_|refine bA_ ?_ _)); exact BK144.out) hb)
       have n4_:=K_ (blk_below (g := gb145) (o := .cells #[.int .u64 t140, .int .i64 t141] 58 (0, 0)) (by (with_reducible repeat (first|refine bN_ ?_ _|refine bD_ ?_|refine bA_ ?_ _)); exact BK145.out) hb)
       have n5_:=K_ (blk_below (g := gb146) (o := .cells #[.int .u64 t142, .int .i64 t143] 58 (0, 0)) (by (with_reducible repeat (first|refine bN_ ?_ _|refine bD_ ?_|refine bA_ ?_ _)); exact BK146.out) hb)
       have n6_:=K_ (below_step (by repeat (first|(with_reducible first|exact HB.out|apply pA_|apply pN_|apply pD_|refine bS_ ?_ GE134.out|refine bS_ ?_ GE135.out|refine bS_ ?_ GE136.out|refine bS_ ?_ GE144.out|refine bS_ ?_ GE145.out|refine bS_ ?_ GE146.out)|exact HB.out)) hb)
       clear BK134
       clear BK135
       clear BK136
       clear BK144
       clear BK145
       clear BK146
       clear HB
       have BK134:=n0_
       have BK135:=n1_
       have BK136:=n2_
       have BK144:=n3_
       have BK145:=n4_
       have BK146:=n5_
       have HB:=n6_
       clear n0_ n1_ n2_ n3_ n4_ n5_ n6_
       (try clear hb)
       (try clear hb2)
       (try clear hk)
       (try clear hi)
       refine hK.out _ _ ⟨(blk_cell BK134.out 0).trans rfl, (blk_cell BK134.out 1).trans rfl, (blk_cell BK135.out 0).trans rfl, (blk_cell BK135.out 1).trans rfl, (blk_cell BK144.out 0).trans rfl, (blk_cell BK144.out 1).trans rfl⟩ (fun hHeld => ?_)
       clear hK K
       refine norm_ (a' := ?_) ?_ ?_
       rotate_left
       ·
        show Act.put _ (some 30) _ = _
        simp only [Act.put, e1_, e2_, e3_, i64_w, i32_w]
        rfl
       refine pure_ (i := 5) (N := some 31) (v := ?_) (a' := ?_) #[true, true, true, true, true, true, false, false, false, false, false, false, false, false, false, false, false, false, false, false, false, false, false, false, false, false, false, false, false, false] rfl rfl (any_of HT_.out (by kernel_rfl)) (fun _ _ _ h => h) (Or.inl ⟨by rfl, ?_⟩) ?_ ?_
       rotate_left
       ·
        intro w'
        go_simp
        with_reducible rfl
       rotate_left
       ·
        simp only [Act.put, e1_, e2_, e3_, i64_w, i32_w]
        rfl
       refine pure_ (i := 6) (N := some 32) (v := ?_) (a' := ?_) #[true, true, true, true, true, true, true, false, false, false, false, false, false, false, false, false, false, false, false, false, false, false, false, false, false, false, false, false, false, false] rfl rfl (any_of HT_.out (by kernel_rfl)) (fun _ _ _ h => h) (Or.inl ⟨by rfl, ?_⟩) ?_ ?_
       rotate_left
       ·
        intro w'
        go_simp
        with_reducible rfl
       rotate_left
       ·
        simp only [Act.put, e1_, e2_, e3_, i64_w, i32_w]
        rfl
       refine pure_ (i := 7) (N := some 33) (v := ?_) (a' := ?_) #[true, true, true, true, true, true, true, true, false, false, false, false, false, false, false, false, false, false, false, false, false, false, false, false, false, false, false, false, false, false] rfl rfl (any_of HT_.out (by kernel_rfl)) (fun _ _ _ h => h) (Or.inl ⟨by rfl, ?_⟩) ?_ ?_
       rotate_left
       ·
        intro w'
        go_simp
        with_reducible rfl
       rotate_left
       ·
        simp only [Act.put, e1_, e2_, e3_, i64_w, i32_w]
        rfl
       refine pure_ (i := 8) (N := some 34) (v := ?_) (a' := ?_) #[true, true, true, true, true, true, true, true, true, false, false, false, false, false, false, false, false, false, false, false, false, false, false, false, false, false, false, false, false, false] rfl rfl (any_of HT_.out (by kernel_rfl)) (fun _ _ _ h => h) (Or.inl ⟨by rfl, ?_⟩) ?_ ?_
       rotate_left
       ·
        intro w'
        go_simp
        with_reducible rfl
       rotate_left
       ·
        simp only [Act.put, e1_, e2_, e3_, i64_w, i32_w]
        rfl
       refine take_ (i := 9) (N := some 35) (v := ?_) (a' := ?_) #[true, true, true, true, true, true, true, true, true, true, false, false, false, false, false, false, false, false, false, false, false, false, false, false, false, false, false, false, false, false] rfl rfl (take_ofW HT_.out HW_.out (by kernel_rfl)) (fun _ _ _ h => h) (Or.inl ⟨by rfl, ?_⟩) hHeld ?_ ?_
       rotate_left
       ·
        rintro w' ⟨s0, s1, s2, s3, s4, s5⟩
        go_simp
        with_reducible rfl
       rotate_left
       ·
        simp only [Act.put, e1_, e2_, e3_, i64_w, i32_w]
        rfl
       refine take_ (i := 10) (N := some 36) (v := ?_) (a' := ?_) #[true, true, true, true, true, true, true, true, true, true, true, false, false, false, false, false, false, false, false, false, false, false, false, false, false, false, false, false, false, false] rfl rfl (take_ofW HT_.out HW_.out (by kernel_rfl)) (fun _ _ _ h => h) (Or.inl ⟨by rfl, ?_⟩) hHeld ?_ ?_
       rotate_left
       ·
        rintro w' ⟨s0, s1, s2, s3, s4, s5⟩
        go_simp
        with_reducible rfl
       rotate_left
       ·
        simp only [Act.put, e1_, e2_, e3_, i64_w, i32_w]
        rfl
       refine one_ (i := 11) (N := some 37) #[true, true, true, true, true, true, true, true, true, true, true, true, false, false, false, false, false, false, false, false, false, false, false, false, false, false, false, false, false, false] rfl rfl (one_of HT_.out (by kernel_rfl)) (by decide) (fun K hK => ?_)
       refine goes_ Try.func41 (by kernel_rfl) rfl #[.agg #[.int .u64 t140, .int .i64 t141], .agg #[.int .u64 t138, .int .i64 t139]] (by rfl) rfl rfl (by (try simp only [List.map_toArray, List.map_cons, List.map_nil]); first|done|rfl|(simp only [List.length_drop, List.length_take]; rfl)) ?_
       with_reducible refine (chatelaineref08_Above.calls t140 t141 t138 t139 t149 _ A51.out).mono ?_
       rintro e w58 ⟨rfl, hb⟩
       refine ⟨_, rfl, ?_⟩
       have n0_:=K_ (blk_below (g := gb134) (o := .cells #[.int .u64 t138, .int .i64 t139] 56 (0, 0)) (by (with_reducible repeat (first|refine bN_ ?_ _|refine bD_ ?_|refine bA_ ?_ _)); exact BK134.out) hb)
       have n1_:=K_ (blk_below (g := gb135) (o := .cells #[.int .u64 t140, .int .i64 t141] 56 (0, 0)) (by (with_reducible repeat (first|refine bN_ ?_ _|refine bD_ ?_|refine bA_ ?_ _)); exact BK135.out) hb)
       have n2_:=K_ (blk_below (g := gb136) (o := .cells #[.int .u64 t142, .int .i64 t143] 56 (0, 0)) (by (with_reducible repeat (first|refine bN_ ?_ _|refine bD_ ?_|refine bA_ ?_ _)); exact BK136.out) hb)
       have n3_:=K_ (blk_below (g := gb144) (o := .cells #[.int .u64 t138, .int .i64 t139] 58 (0, 0)) (by (with_reducible repeat (first|refine bN_ ?_ _|refine bD_ ?_|refine bA_ ?_ _)); exact BK144.out) hb)
       have n4_:=K_ (blk_below (g := gb145) (o := .cells #[.int .u64 t140, .int .i64 t141] 58 (0, 0)) (by (with_reducible repeat (first|refine bN_ ?_ _|refine bD_ ?_|refine bA_ ?_ _)); exact BK145.out) hb)
       have n5_:=K_ (blk_below (g := gb146) (o := .cells #[.int .u64 t142, .int .i64 t143] 58 (0, 0)) (by (with_reducible repeat (first|refine bN_ ?_ _|refine bD_ ?_|refine bA_ ?_ _)); exact BK146.out) hb)
       have n6_:=K_ (below_step (by repeat (first|(with_reducible first|exact HB.out|apply pA_|apply pN_|apply pD_|refine bS_ ?_ GE134.out|refine bS_ ?_ GE135.out|refine bS_ ?_ GE136.out|refine bS_ ?_ GE144.out|refine bS_ ?_ GE145.out|refine bS_ ?_ GE146.out)|exact HB.out)) hb)
       clear BK134
       clear BK135
       clear BK136
       clear BK144
       clear BK145
       clear BK146
       clear HB
       have BK134:=n0_
       have BK135:=n1_
       have BK136:=n2_
       have BK144:=n3_
       have BK145:=n4_
       have BK146:=n5_
       have HB:=n6_
       clear n0_ n1_ n2_ n3_ n4_ n5_ n6_
       (try clear hb)
       (try clear hb2)
       (try clear hk)
       (try clear hi)
       refine hK.out _ _ ⟨(blk_cell BK134.out 0).trans rfl, (blk_cell BK134.out 1).trans rfl, (blk_cell BK135.out 0).trans rfl, (blk_cell BK135.out 1).trans rfl, (blk_cell BK144.out 0).trans rfl, (blk_cell BK144.out 1).trans rfl⟩ (fun hHeld => ?_)
       clear hK K
       refine norm_ (a' := ?_) ?_ ?_
       rotate_left
       ·
        show Act.put _ (some 37) _ = _
        simp only [Act.put, e1_, e2_, e3_, i64_w, i32_w]
        rfl
       refine pure_ (i := 12) (N := some 38) (v := ?_) (a' := ?_) #[true, true, true, true, true, true, true, true, true, true, true, true, true, false, false, false, false, false, false, false, false, false, false, false, false, false, false, false, false, false] rfl rfl (any_of HT_.out (by kernel_rfl)) (fun _ _ _ h => h) (Or.inl ⟨by rfl, ?_⟩) ?_ ?_
       rotate_left
       ·
        intro w'
        go_simp
        with_reducible rfl
       rotate_left
       ·
        simp only [Act.put, e1_, e2_, e3_, i64_w, i32_w]
        rfl
       refine pure_ (i := 13) (N := some 39) (v := ?_) (a' := ?_) #[true, true, true, true, true, true, true, true, true, true, true, true, true, true, false, false, false, false, false, false, false, false, false, false, false, false, false, false, false, false] rfl rfl (any_of HT_.out (by kernel_rfl)) (fun _ _ _ h => h) (Or.inl ⟨by rfl, ?_⟩) ?_ ?_
       rotate_left
       ·
        intro w'
        go_simp
        with_reducible rfl
       rotate_left
       ·
        simp only [Act.put, e1_, e2_, e3_, i64_w, i32_w]
        rfl
       refine pure_ (i := 14) (N := some 40) (v := ?_) (a' := ?_) #[true, true, true, true, true, true, true, true, true, true, true, true, true, true, true, false, false, false, false, false, false, false, false, false, false, false, false, false, false, false] rfl rfl (any_of HT_.out (by kernel_rfl)) (fun _ _ _ h => h) (Or.inl ⟨by rfl, ?_⟩) ?_ ?_
       rotate_left
       ·
        intro w'
        go_simp
        with_reducible rfl
       rotate_left
       ·
        simp only [Act.put, e1_, e2_, e3_, i64_w, i32_w]
        rfl
       refine pure_ (i := 15) (N := some 41) (v := ?_) (a' := ?_) #[true, true, true, true, true, true, true, true, true, true, true, true, true, true, true, true, false, false, false, false, false, false, false, false, false, false, false, false, false, false] rfl rfl (any_of HT_.out (by kernel_rfl)) (fun _ _ _ h => h) (Or.inl ⟨by rfl, ?_⟩) ?_ ?_
       rotate_left
       ·
        intro w'
        go_simp
        with_reducible rfl
       rotate_left
       ·
        simp only [Act.put, e1_, e2_, e3_, i64_w, i32_w]
        rfl
       refine pure_ (i := 16) (N := some 42) (v := ?_) (a' := ?_) #[true, true, true, true, true, true, true, true, true, true, true, true, true, true, true, true, true, false, false, false, false, false, false, false, false, false, false, false, false, false] rfl rfl (any_of HT_.out (by kernel_rfl)) (fun _ _ _ h => h) (Or.inl ⟨by rfl, ?_⟩) ?_ ?_
       rotate_left
       ·
        intro w'
        go_simp
        with_reducible rfl
       rotate_left
       ·
        simp only [Act.put, e1_, e2_, e3_, i64_w, i32_w]
        rfl
       refine pure_ (i := 17) (N := some 43) (v := ?_) (a' := ?_) #[true, true, true, true, true, true, true, true, true, true, true, true, true, true, true, true, true, true, false, false, false, false, false, false, false, false, false, false, false, false] rfl rfl (any_of HT_.out (by kernel_rfl)) (fun _ _ _ h => h) (Or.inl ⟨by rfl, ?_⟩) ?_ ?_
       rotate_left
       ·
        intro w'
        go_simp
        with_reducible rfl
       rotate_left
       ·
        simp only [Act.put, e1_, e2_, e3_, i64_w, i32_w]
        rfl
       refine pure_ (i := 18) (N := some 44) (v := ?_) (a' := ?_) #[true, true, true, true, true, true, true, true, true, true, true, true, true, true, true, true, true, true, true, false, false, false, false, false, false, false, false, false, false, false] rfl rfl (any_of HT_.out (by kernel_rfl)) (fun _ _ _ h => h) (Or.inl ⟨by rfl, ?_⟩) ?_ ?_
       rotate_left
       ·
        intro w'
        go_simp
        with_reducible rfl
       rotate_left
       ·
        simp only [Act.put, e1_, e2_, e3_, i64_w, i32_w]
        rfl
       refine pure_ (i := 19) (N := some 45) (v := ?_) (a' := ?_) #[true, true, true, true, true, true, true, true, true, true, true, true, true, true, true, true, true, true, true, true, false, false, false, false, false, false, false, false, false, false] rfl rfl (any_of HT_.out (by kernel_rfl)) (fun _ _ _ h => h) (Or.inl ⟨by rfl, ?_⟩) ?_ ?_
       rotate_left
       ·
        intro w'
        go_simp
        with_reducible rfl
       rotate_left
       ·
        simp only [Act.put, e1_, e2_, e3_, i64_w, i32_w]
        rfl
       refine pure_ (i := 20) (N := some 46) (v := ?_) (a' := ?_) #[true, true, true, true, true, true, true, true, true, true, true, true, true, true, true, true, true, true, true, true, true, false, false, false, false, false, false, false, false, false] rfl rfl (any_of HT_.out (by kernel_rfl)) (fun _ _ _ h => h) (Or.inl ⟨by rfl, ?_⟩) ?_ ?_
       rotate_left
       ·
        intro w'
        go_simp
        with_reducible rfl
       rotate_left
       ·
        simp only [Act.put, e1_, e2_, e3_, i64_w, i32_w]
        rfl
       refine pure_ (i := 21) (N := some 47) (v := ?_) (a' := ?_) #[true, true, true, true, true, true, true, true, true, true, true, true, true, true, true, true, true, true, true, true, true, true, false, false, false, false, false, false, false, false] rfl rfl (any_of HT_.out (by kernel_rfl)) (fun _ _ _ h => h) (Or.inl ⟨by rfl, ?_⟩) ?_ ?_
       rotate_left
       ·
        intro w'
        go_simp
        with_reducible rfl
       rotate_left
       ·
        simp only [Act.put, e1_, e2_, e3_, i64_w, i32_w]
        rfl
       refine pure_ (i := 22) (N := some 48) (v := ?_) (a' := ?_) #[true, true, true, true, true, true, true, true, true, true, true, true, true, true, true, true, true, true, true, true, true, true, true, false, false, false, false, false, false, false] rfl rfl (any_of HT_.out (by kernel_rfl)) (fun _ _ _ h => h) (Or.inl ⟨by rfl, ?_⟩) ?_ ?_
       rotate_left
       ·
        intro w'
        go_simp
        with_reducible rfl
       rotate_left
       ·
        simp only [Act.put, e1_, e2_, e3_, i64_w, i32_w]
        rfl
       refine pure_ (i := 26) (N := some 52) (v := ?_) (a' := ?_) #[true, true, true, true, true, true, true, true, true, true, true, true, true, true, true, true, true, true, true, true, true, true, true, false, false, false, true, false, false, false] rfl rfl (any_of HT_.out (by kernel_rfl)) (fun _ _ _ h => h) (Or.inl ⟨by rfl, ?_⟩) ?_ ?_
       rotate_left
       ·
        intro w'
        go_simp
        with_reducible rfl
       rotate_left
       ·
        simp only [Act.put, e1_, e2_, e3_, i64_w, i32_w]
        rfl
       refine take_ (i := 23) (N := some 49) (v := ?_) (a' := ?_) #[true, true, true, true, true, true, true, true, true, true, true, true, true, true, true, true, true, true, true, true, true, true, true, true, false, false, true, false, false, false] rfl rfl (take_ofW HT_.out HW_.out (by kernel_rfl)) (fun _ _ _ h => h) (Or.inl ⟨by rfl, ?_⟩) hHeld ?_ ?_
       rotate_left
       ·
        rintro w' ⟨s0, s1, s2, s3, s4, s5⟩
        go_simp
        with_reducible rfl
       rotate_left
       ·
        simp only [Act.put, e1_, e2_, e3_, i64_w, i32_w]
        rfl
       refine take_ (i := 25) (N := some 51) (v := ?_) (a' := ?_) #[true, true, true, true, true, true, true, true, true, true, true, true, true, true, true, true, true, true, true, true, true, true, true, true, false, true, true, false, false, false] rfl rfl (take_ofW HT_.out HW_.out (by kernel_rfl)) (fun _ _ _ h => h) (Or.inl ⟨by rfl, ?_⟩) hHeld ?_ ?_
       rotate_left
       ·
        rintro w' ⟨s0, s1, s2, s3, s4, s5⟩
        go_simp
        with_reducible rfl
       rotate_left
       ·
        simp only [Act.put, e1_, e2_, e3_, i64_w, i32_w]
        rfl
       refine pure_ (i := 27) (N := some 53) (v := ?_) (a' := ?_) #[true, true, true, true, true, true, true, true, true, true, true, true, true, true, true, true, true, true, true, true, true, true, true, true, false, true, true, true, false, false] rfl rfl (any_of HT_.out (by kernel_rfl)) (fun _ _ _ h => h) (Or.inl ⟨by rfl, ?_⟩) ?_ ?_
       rotate_left
       ·
        intro w'
        go_simp
        with_reducible rfl
       rotate_left
       ·
        simp only [Act.put, e1_, e2_, e3_, i64_w, i32_w]
        rfl
       refine one_ (i := 24) (N := some 50) #[true, true, true, true, true, true, true, true, true, true, true, true, true, true, true, true, true, true, true, true, true, true, true, true, true, true, true, true, false, false] rfl rfl (one_of HT_.out (by kernel_rfl)) (by decide) (fun K hK => ?_)
       refine goes_ Try.func42 (by kernel_rfl) rfl #[.agg #[.int .u64 t138, .int .i64 t139]] (by rfl) rfl rfl (by (try simp only [List.map_toArray, List.map_cons, List.map_nil]); first|done|rfl|(simp only [List.length_drop, List.length_take]; rfl)) ?_
       with_reducible refine (ballot_Ballot_None.calls t138 t139 t150 _ A55.out).mono ?_
       rintro e w59 ⟨rfl, hb⟩
       refine ⟨_, rfl, ?_⟩
       have n0_:=K_ (blk_below (g := gb134) (o := .cells #[.int .u64 t138, .int .i64 t139] 56 (0, 0)) (by (with_reducible repeat (first|refine bN_ ?_ _|refine bD_ ?_|refine bA_ ?_ _)); exact BK134.out) hb)
       have n1_:=K_ (blk_below (g := gb135) (o := .cells #[.int .u64 t140, .int .i64 t141] 56 (0, 0)) (by (with_reducible repeat (first|refine bN_ ?_ _|refine bD_ ?_|refine bA_ ?_ _)); exact BK135.out) hb)
       have n2_:=K_ (blk_below (g := gb136) (o := .cells #[.int .u64 t142, .int .i64 t143] 56 (0, 0)) (by (with_reducible repeat (first|refine bN_ ?_ _|refine bD_ ?_|refine bA_ ?_ _)); exact BK136.out) hb)
       have n3_:=K_ (blk_below (g := gb144) (o := .cells #[.int .u64 t138, .int .i64 t139] 58 (0, 0)) (by (with_reducible repeat (first|refine bN_ ?_ _|refine bD_ ?_|refine bA_ ?_ _)); exact BK144.out) hb)
       have n4_:=K_ (blk_below (g := gb145) (o := .cells #[.int .u64 t140, .int .i64 t141] 58 (0, 0)) (by (with_reducible repeat (first|refine bN_ ?_ _|refine bD_ ?_|refine bA_ ?_ _)); exact BK145.out) hb)
       have n5_:=K_ (blk_below (g := gb146) (o := .cells #[.int .u64 t142, .int .i64 t143] 58 (0, 0)) (by (with_reducible repeat (first|refine bN_ ?_ _|refine bD_ ?_|refine bA_ ?_ _)); exact BK146.out) hb)
       have n6_:=K_ (below_step (by repeat (first|(with_reducible first|exact HB.out|apply pA_|apply pN_|apply pD_|refine bS_ ?_ GE134.out|refine bS_ ?_ GE135.out|refine bS_ ?_ GE136.out|refine bS_ ?_ GE144.out|refine bS_ ?_ GE145.out|refine bS_ ?_ GE146.out)|exact HB.out)) hb)
       clear BK134
       clear BK135
       clear BK136
       clear BK144
       clear BK145
       clear BK146
       clear HB
       have BK134:=n0_
       have BK135:=n1_
       have BK136:=n2_
       have BK144:=n3_
       have BK145:=n4_
       have BK146:=n5_
       have HB:=n6_
       clear n0_ n1_ n2_ n3_ n4_ n5_ n6_
       (try clear hb)
       (try clear hb2)
       (try clear hk)
       (try clear hi)
       refine hK.out _ _ ⟨(blk_cell BK134.out 0).trans rfl, (blk_cell BK134.out 1).trans rfl, (blk_cell BK135.out 0).trans rfl, (blk_cell BK135.out 1).trans rfl, (blk_cell BK144.out 0).trans rfl, (blk_cell BK144.out 1).trans rfl⟩ (fun hHeld => ?_)
       clear hK K
       refine norm_ (a' := ?_) ?_ ?_
       rotate_left
       ·
        show Act.put _ (some 50) _ = _
        simp only [Act.put, e1_, e2_, e3_, i64_w, i32_w]
        rfl
       refine pure_ (i := 28) (N := some 54) (v := ?_) (a' := ?_) #[true, true, true, true, true, true, true, true, true, true, true, true, true, true, true, true, true, true, true, true, true, true, true, true, true, true, true, true, true, false] rfl rfl (any_of HT_.out (by kernel_rfl)) (fun _ _ _ h => h) (Or.inl ⟨by rfl, ?_⟩) ?_ ?_
       rotate_left
       ·
        intro w'
        go_simp
        with_reducible rfl
       rotate_left
       ·
        simp only [Act.put, e1_, e2_, e3_, i64_w, i32_w]
        rfl
       refine pure_ (i := 29) (N := some 55) (v := ?_) (a' := ?_) #[true, true, true, true, true, true, true, true, true, true, true, true, true, true, true, true, true, true, true, true, true, true, true, true, true, true, true, true, true, true] rfl rfl (any_of HT_.out (by kernel_rfl)) (fun _ _ _ h => h) (Or.inl ⟨by rfl, ?_⟩) ?_ ?_
       rotate_left
       ·
        intro w'
        go_simp
        with_reducible rfl
       rotate_left
       ·
        simp only [Act.put, e1_, e2_, e3_, i64_w, i32_w]
        rfl
       refine done_ (done_of HT_.out (by kernel_rfl)) ?_
       try go_wp2
       go_meet
       case rel => exact ⟨_, ((t150 != (t138 == 0 && (t139 == 0)))), (by first|rfl|(simp; done)|(simp [*]; done)), H', ⟨by first|omega|exact Nat.le_refl _⟩, ⟨by (with_reducible repeat (first|refine bN_ ?_ _|refine bD_ ?_|refine bA_ ?_ _)); exact BK134.out⟩, ⟨by (with_reducible repeat (first|refine bN_ ?_ _|refine bD_ ?_|refine bA_ ?_ _)); exact BK135.out⟩, ⟨by (with_reducible repeat (first|refine bN_ ?_ _|refine bD_ ?_|refine bA_ ?_ _)); exact BK136.out⟩, ⟨by (with_reducible repeat (first|refine bN_ ?_ _|refine bD_ ?_|refine bA_ ?_ _)); exact BK144.out⟩, ⟨by (with_reducible repeat (first|refine bN_ ?_ _|refine bD_ ?_|refine bA_ ?_ _)); exact BK145.out⟩, ⟨by (with_reducible repeat (first|refine bN_ ?_ _|refine bD_ ?_|refine bA_ ?_ _)); exact BK146.out⟩, ⟨by repeat (first|(with_reducible first|exact HB.out|apply pA_|apply pN_|apply pD_|refine bS_ ?_ GE134.out|refine bS_ ?_ GE135.out|refine bS_ ?_ GE136.out|refine bS_ ?_ GE144.out|refine bS_ ?_ GE145.out|refine bS_ ?_ GE146.out)|exact HB.out)⟩⟩
  case rest =>
   clear HC10
   try clear p2
   try clear c3
   try clear c4
   try clear c5
   try clear c37
   try clear c38
   try clear c39
   try clear c40
   try clear c41
   try clear c42
   try clear c43
   try clear c44
   try clear c45
   try clear c46
   try clear c50
   try clear c50b0
   try clear c50b1
   try clear c50b2
   try clear c52
   try clear c52b0
   try clear c52b1
   try clear c52b2
   try clear c53
   try clear c53b0
   try clear c54
   try clear c54b0
   try clear hcz42_0
   try clear hcz42_1
   try clear hcz47_0
   try clear hcz47_1
   try clear hfz42_0
   try clear hfz42_1
   try clear hfz47_0
   try clear hfz47_1
   obtain ⟨kq, x55_9, rfl, HA, HJ9, BK134, BK135, BK136, BK144, BK145, BK146, HB⟩ := hcut
   cases kq with
   | zero => exact absurd HA.out (by simp [j0])
   | succ kj9 =>
    have H:=HA.out
    clear HA
    simp only [j0] at H
    by_cases c60 : x55_9 = true
    ·
     subst c60
     have H1 : (some false) = some r := by rw [if_pos rfl] at H; exact H
     clear H
     have H:=H1
     clear H1
     obtain rfl := Option.some.inj H
     exact absurd hr_ (by decide)
    ·
     replace c60 := Bool.eq_false_iff.mpr c60
     subst c60
     have H1 : ((ballot_Max.f kj9 (([(⟨t138, t139⟩ : S58), (⟨t140, t141⟩ : S58), (⟨t142, t143⟩ : S58)] : List (S58)))).bind fun bt154 => (if (bt154.1 == t138 && (bt154.2 == t139)) = true then ((ballot_Compare.f kj9 bt154.1 bt154.2 t138 t139).bind fun t157 => (if t157 ≥ 0 then ((ballot_Compare.f kj9 bt154.1 bt154.2 t140 t141).bind fun t158 => (if t158 ≥ 0 then ((ballot_Compare.f kj9 bt154.1 bt154.2 t142 t143).bind fun t159 => (if t159 ≥ 0 then ((ballot_Max.f kj9 ([] : List (S58))).bind fun bt160 => ((ballot_Ballot_None.f bt160.1 bt160.2).bind fun t162 => (some t162))) else (some false))) else (some false))) else (some false))) else (if (bt154.1 == t140 && (bt154.2 == t141)) = true then ((ballot_Compare.f kj9 bt154.1 bt154.2 t138 t139).bind fun t163 => (if t163 ≥ 0 then ((ballot_Compare.f kj9 bt154.1 bt154.2 t140 t141).bind fun t164 => (if t164 ≥ 0 then ((ballot_Compare.f kj9 bt154.1 bt154.2 t142 t143).bind fun t165 => (if t165 ≥ 0 then ((ballot_Max.f kj9 ([] : List (S58))).bind fun bt166 => ((ballot_Ballot_None.f bt166.1 bt166.2).bind fun t168 => (some t168))) else (some false))) else (some false))) else (some false))) else (if (bt154.1 == t142 && (bt154.2 == t143)) = true then ((ballot_Compare.f kj9 bt154.1 bt154.2 t138 t139).bind fun t169 => (if t169 ≥ 0 then ((ballot_Compare.f kj9 bt154.1 bt154.2 t140 t141).bind fun t170 => (if t170 ≥ 0 then ((ballot_Compare.f kj9 bt154.1 bt154.2 t142 t143).bind fun t171 => (if t171 ≥ 0 then ((ballot_Max.f kj9 ([] : List (S58))).bind fun bt172 => ((ballot_Ballot_None.f bt172.1 bt172.2).bind fun t174 => (some t174))) else (some false))) else (some false))) else (some false))) else (some false))))) = some r := by rw [if_neg (show ¬ (false = true) by decide)] at H; exact H
     clear H
     have H:=H1
     clear H1
     obtain ⟨y151, hy151⟩ : ∃ y_ : List (S58), y_ = (([(⟨t138, t139⟩ : S58), (⟨t140, t141⟩ : S58), (⟨t142, t143⟩ : S58)] : List (S58))) := ⟨_, rfl⟩
     replace H : ((ballot_Max.f kj9 y151).bind fun bt154 => (if (bt154.1 == t138 && (bt154.2 == t139)) = true then ((ballot_Compare.f kj9 bt154.1 bt154.2 t138 t139).bind fun t157 => (if t157 ≥ 0 then ((ballot_Compare.f kj9 bt154.1 bt154.2 t140 t141).bind fun t158 => (if t158 ≥ 0 then ((ballot_Compare.f kj9 bt154.1 bt154.2 t142 t143).bind fun t159 => (if t159 ≥ 0 then ((ballot_Max.f kj9 ([] : List (S58))).bind fun bt160 => ((ballot_Ballot_None.f bt160.1 bt160.2).bind fun t162 => (some t162))) else (some false))) else (some false))) else (some false))) else (if (bt154.1 == t140 && (bt154.2 == t141)) = true then ((ballot_Compare.f kj9 bt154.1 bt154.2 t138 t139).bind fun t163 => (if t163 ≥ 0 then ((ballot_Compare.f kj9 bt154.1 bt154.2 t140 t141).bind fun t164 => (if t164 ≥ 0 then ((ballot_Compare.f kj9 bt154.1 bt154.2 t142 t143).bind fun t165 => (if t165 ≥ 0 then ((ballot_Max.f kj9 ([] : List (S58))).bind fun bt166 => ((ballot_Ballot_None.f bt166.1 bt166.2).bind fun t168 => (some t168))) else (some false))) else (some false))) else (some false))) else (if (bt154.1 == t142 && (bt154.2 == t143)) = true then ((ballot_Compare.f kj9 bt154.1 bt154.2 t138 t139).bind fun t169 => (if t169 ≥ 0 then ((ballot_Compare.f kj9 bt154.1 bt154.2 t140 t141).bind fun t170 => (if t170 ≥ 0 then ((ballot_Compare.f kj9 bt154.1 bt154.2 t142 t143).bind fun t171 => (if t171 ≥ 0 then ((ballot_Max.f kj9 ([] : List (S58))).bind fun bt172 => ((ballot_Ballot_None.f bt172.1 bt172.2).bind fun t174 => (some t174))) else (some false))) else (some false))) else (some false))) else (some false))))) = some r := by first|(rw [hy151]; with_reducible exact H)|(have H2_:=(Option.bind_some _ _).symm.trans H; rw [hy151]; with_reducible exact H2_)|(have H2_:=(Option.bind_some _ _).symm.trans H; with_reducible exact H2_)|with_reducible exact H|(rw [hy151]; exact H)|exact H
     have Ny151:=K_ hy151
     clear hy151
     replace H := Option.bind_eq_some_iff.mp H
     obtain ⟨⟨t154, t155⟩, A610, H⟩ := H
     replace H : (if (t154 == t138 && (t155 == t139)) = true then ((ballot_Compare.f kj9 t154 t155 t138 t139).bind fun t157 => (if t157 ≥ 0 then ((ballot_Compare.f kj9 t154 t155 t140 t141).bind fun t158 => (if t158 ≥ 0 then ((ballot_Compare.f kj9 t154 t155 t142 t143).bind fun t159 => (if t159 ≥ 0 then ((ballot_Max.f kj9 ([] : List (S58))).bind fun bt160 => ((ballot_Ballot_None.f bt160.1 bt160.2).bind fun t162 => (some t162))) else (some false))) else (some false))) else (some false))) else (if (t154 == t140 && (t155 == t141)) = true then ((ballot_Compare.f kj9 t154 t155 t138 t139).bind fun t163 => (if t163 ≥ 0 then ((ballot_Compare.f kj9 t154 t155 t140 t141).bind fun t164 => (if t164 ≥ 0 then ((ballot_Compare.f kj9 t154 t155 t142 t143).bind fun t165 => (if t165 ≥ 0 then ((ballot_Max.f kj9 ([] : List (S58))).bind fun bt166 => ((ballot_Ballot_None.f bt166.1 bt166.2).bind fun t168 => (some t168))) else (some false))) else (some false))) else (some false))) else (if (t154 == t142 && (t155 == t143)) = true then ((ballot_Compare.f kj9 t154 t155 t138 t139).bind fun t169 => (if t169 ≥ 0 then ((ballot_Compare.f kj9 t154 t155 t140 t141).bind fun t170 => (if t170 ≥ 0 then ((ballot_Compare.f kj9 t154 t155 t142 t143).bind fun t171 => (if t171 ≥ 0 then ((ballot_Max.f kj9 ([] : List (S58))).bind fun bt172 => ((ballot_Ballot_None.f bt172.1 bt172.2).bind fun t174 => (some t174))) else (some false))) else (some false))) else (some false))) else (some false)))) = some r := H
     have A61:=K_ A610
     clear A610
     by_cases c62 : (t154 == t138 && (t155 == t139)) = true
     ·
      rw [if_pos c62] at H
      have c62b0 : (t154 == t138 && (t155 == t139)) = true := c62
      (try (have c62b1 : decide (t154 = t138 && (t155 == t139)) = true := by simpa using c62))
      (try (have c62b2 : (t154 == t138 && (t155 == t139)) = true := by simpa using c62))
      clear c62
      replace H := Option.bind_eq_some_iff.mp H
      obtain ⟨t157, A630, H⟩ := H
      replace H : (if t157 ≥ 0 then ((ballot_Compare.f kj9 t154 t155 t140 t141).bind fun t158 => (if t158 ≥ 0 then ((ballot_Compare.f kj9 t154 t155 t142 t143).bind fun t159 => (if t159 ≥ 0 then ((ballot_Max.f kj9 ([] : List (S58))).bind fun bt160 => ((ballot_Ballot_None.f bt160.1 bt160.2).bind fun t162 => (some t162))) else (some false))) else (some false))) else (some false)) = some r := H
      have A63:=K_ A630
      clear A630
      by_cases c64 : t157 ≥ 0
      ·
       rw [if_pos c64] at H
       have c64b0 : decide (0 ≤ t157) = true := decide_eq_true c64
       clear c64
       replace H := Option.bind_eq_some_iff.mp H
       obtain ⟨t158, A650, H⟩ := H
       replace H : (if t158 ≥ 0 then ((ballot_Compare.f kj9 t154 t155 t142 t143).bind fun t159 => (if t159 ≥ 0 then ((ballot_Max.f kj9 ([] : List (S58))).bind fun bt160 => ((ballot_Ballot_None.f bt160.1 bt160.2).bind fun t162 => (some t162))) else (some false))) else (some false)) = some r := H
       have A65:=K_ A650
       clear A650
       by_cases c66 : t158 ≥ 0
       ·
        rw [if_pos c66] at H
        have c66b0 : decide (0 ≤ t158) = true := decide_eq_true c66
        clear c66
        replace H := Option.bind_eq_some_iff.mp H
        obtain ⟨t159, A670, H⟩ := H
        replace H : (if t159 ≥ 0 then ((ballot_Max.f kj9 ([] : List (S58))).bind fun bt160 => ((ballot_Ballot_None.f bt160.1 bt160.2).bind fun t162 => (some t162))) else (some false)) = some r := H
        have A67:=K_ A670
        clear A670
        by_cases c68 : t159 ≥ 0
        ·
         rw [if_pos c68] at H
         have c68b0 : decide (0 ≤ t159) = true := decide_eq_true c68
         clear c68
         replace H := Option.bind_eq_some_iff.mp H
         obtain ⟨⟨t160, t161⟩, A690, H⟩ := H
         replace H : ((ballot_Ballot_None.f t160 t161).bind fun t162 => (some t162)) = some r := H
         have A69:=K_ A690
         clear A690
         replace H := Option.bind_eq_some_iff.mp H
         obtain ⟨t162, A700, H⟩ := H
         replace H : (some t162) = some r := H
         have A70:=K_ A700
         clear A700
         obtain rfl := Option.some.inj H
         clear hr_
         have hnb71:=NB144_134.out
         have hnc71:=NB134_144.out
         have hnb72:=NB144_135.out
         have hnc72:=NB135_144.out
         have hnb73:=NB144_136.out
         have hnc73:=NB136_144.out
         have hnb74:=NB144_145.out
         have hnc74:=NB145_144.out
         have hnb75:=NB144_146.out
         have hnc75:=NB146_144.out
         have hcz76_0 : wc.cell? ⟨gb144, 0, none⟩ = some (.int .u64 t138) := (blk_cell BK144.out 0).trans rfl
         have hcz76_1 : wc.cell? ⟨gb144, 1, none⟩ = some (.int .i64 t139) := (blk_cell BK144.out 1).trans rfl
         have hfz76_0:=blk_frozen BK144.out 0
         have hfz76_1:=blk_frozen BK144.out 1
         have hnb77:=NB145_134.out
         have hnc77:=NB134_145.out
         have hnb78:=NB145_135.out
         have hnc78:=NB135_145.out
         have hnb79:=NB145_136.out
         have hnc79:=NB136_145.out
         have hnb80:=NB145_146.out
         have hnc80:=NB146_145.out
         have hcz81_0 : wc.cell? ⟨gb145, 0, none⟩ = some (.int .u64 t140) := (blk_cell BK145.out 0).trans rfl
         have hcz81_1 : wc.cell? ⟨gb145, 1, none⟩ = some (.int .i64 t141) := (blk_cell BK145.out 1).trans rfl
         have hfz81_0:=blk_frozen BK145.out 0
         have hfz81_1:=blk_frozen BK145.out 1
         have hnb82:=NB146_134.out
         have hnc82:=NB134_146.out
         have hnb83:=NB146_135.out
         have hnc83:=NB135_146.out
         have hnb84:=NB146_136.out
         have hnc84:=NB136_146.out
         have hcz85_0 : wc.cell? ⟨gb146, 0, none⟩ = some (.int .u64 t142) := (blk_cell BK146.out 0).trans rfl
         have hcz85_1 : wc.cell? ⟨gb146, 1, none⟩ = some (.int .i64 t143) := (blk_cell BK146.out 1).trans rfl
         have hfz85_0:=blk_frozen BK146.out 0
         have hfz85_1:=blk_frozen BK146.out 1
         go_wp2_with (first|((with_reducible refine gate_dst (N := 59) rfl ?_); refine Kd.R_lit k58 _ 58 ?hg (N := 59) ?hd (xs := ([(⟨t138, t139⟩ : S58), (⟨t140, t141⟩ : S58), (⟨t142, t143⟩ : S58)] : List (S58))) (inner := [.int .u64 t138, .int .i64 t139, .int .u64 t140, .int .i64 t141, .int .u64 t142, .int .i64 t143]) (ok := fun _ => True) (okp := fun _ => True) ?hr ?hp (fun _ hk => hk) trivial (Below.refl _ _) (Nat.le_refl _) (by simp) ?_; (case hd => rfl); (case hg => rfl); (case hr => first|(go_simp; done)|(go_simp; rfl)); (case hp => exact (Reps.c2 (show Kd.M k58 _ _ _ (⟨t138, t139⟩ : S58) [.int .u64 t138, .int .i64 t139] from (k58_mkM _ _ _ (⟨t138, t139⟩ : S58) )) (Reps.c2 (show Kd.M k58 _ _ _ (⟨t140, t141⟩ : S58) [.int .u64 t140, .int .i64 t141] from (k58_mkM _ _ _ (⟨t140, t141⟩ : S58) )) (Reps.c2 (show Kd.M k58 _ _ _ (⟨t142, t143⟩ : S58) [.int .u64 t142, .int .i64 t143] from (k58_mkM _ _ _ (⟨t142, t143⟩ : S58) )) (Reps.none _ _))))); intro v152 w86 ho87 hb hg_ hnew_; clear hg_ hnew_; (first|rw [← Ny151.out] at ho87|(simp only [Int.reduceToNat] at ho87; rw [← Ny151.out] at ho87)); have n0_:=K_ (Kd.R_lower (Kd.R_newB (Kd.R_newB (Kd.R_newB ho87 (g := gb144) (o := .cells #[.int .u64 t138, .int .i64 t139] 58 (0, 0)) (by (with_reducible repeat (first|refine bN_ ?_ _|refine bD_ ?_|refine bA_ ?_ _)); exact BK144.out)) (g := gb145) (o := .cells #[.int .u64 t140, .int .i64 t141] 58 (0, 0)) (by (with_reducible repeat (first|refine bN_ ?_ _|refine bD_ ?_|refine bA_ ?_ _)); exact BK145.out)) (g := gb146) (o := .cells #[.int .u64 t142, .int .i64 t143] 58 (0, 0)) (by (with_reducible repeat (first|refine bN_ ?_ _|refine bD_ ?_|refine bA_ ?_ _)); exact BK146.out)) (below_size (by repeat (first|(with_reducible first|exact HB.out|apply pA_|apply pN_|apply pD_|refine bS_ ?_ GE134.out|refine bS_ ?_ GE135.out|refine bS_ ?_ GE136.out|refine bS_ ?_ GE144.out|refine bS_ ?_ GE145.out|refine bS_ ?_ GE146.out)|exact HB.out)))); have n1_:=K_ (blk_below (g := gb134) (o := .cells #[.int .u64 t138, .int .i64 t139] 56 (0, 0)) (by (with_reducible repeat (first|refine bN_ ?_ _|refine bD_ ?_|refine bA_ ?_ _)); exact BK134.out) hb); have n2_:=K_ (blk_below (g := gb135) (o := .cells #[.int .u64 t140, .int .i64 t141] 56 (0, 0)) (by (with_reducible repeat (first|refine bN_ ?_ _|refine bD_ ?_|refine bA_ ?_ _)); exact BK135.out) hb); have n3_:=K_ (blk_below (g := gb136) (o := .cells #[.int .u64 t142, .int .i64 t143] 56 (0, 0)) (by (with_reducible repeat (first|refine bN_ ?_ _|refine bD_ ?_|refine bA_ ?_ _)); exact BK136.out) hb); have n4_:=K_ (blk_below (g := gb144) (o := .cells #[.int .u64 t138, .int .i64 t139] 58 (0, 0)) (by (with_reducible repeat (first|refine bN_ ?_ _|refine bD_ ?_|refine bA_ ?_ _)); exact BK144.out) hb); have n5_:=K_ (blk_below (g := gb145) (o := .cells #[.int .u64 t140, .int .i64 t141] 58 (0, 0)) (by (with_reducible repeat (first|refine bN_ ?_ _|refine bD_ ?_|refine bA_ ?_ _)); exact BK145.out) hb); have n6_:=K_ (blk_below (g := gb146) (o := .cells #[.int .u64 t142, .int .i64 t143] 58 (0, 0)) (by (with_reducible repeat (first|refine bN_ ?_ _|refine bD_ ?_|refine bA_ ?_ _)); exact BK146.out) hb); have n7_:=K_ (below_step (by repeat (first|(with_reducible first|exact HB.out|apply pA_|apply pN_|apply pD_|refine bS_ ?_ GE134.out|refine bS_ ?_ GE135.out|refine bS_ ?_ GE136.out|refine bS_ ?_ GE144.out|refine bS_ ?_ GE145.out|refine bS_ ?_ GE146.out)|exact HB.out)) hb); clear BK134; clear BK135; clear BK136; clear BK144; clear BK145; clear BK146; clear HB; have HO153:=n0_; have BK134:=n1_; have BK135:=n2_; have BK136:=n3_; have BK144:=n4_; have BK145:=n5_; have BK146:=n6_; have HB:=n7_; clear n0_ n1_ n2_ n3_ n4_ n5_ n6_ n7_; clear hb ho87; obtain ⟨Ao88, co88, eo88⟩ := Kd.R_slice HO153.out; subst eo88)|((with_reducible refine gate_callee (f := 43) rfl ?_); refine goesL_ (some 60) rfl rfl Try.func43 (by kernel_rfl) rfl #[.slice Ao88 y151.length co88] rfl (by (try simp only [List.map_toArray, List.map_cons, List.map_nil]); first|done|rfl|(simp only [List.length_drop, List.length_take]; rfl)) ?_; (with_reducible refine (ballot_Max.calls kj9 _ _ y151 t154 t155 _ ?side1 ?side2 A61.out).mono ?_); (case side1 => repeat (first|exact (Kd.R_reads' HO153.out).2.2|(with_reducible refine Kd.C_alloc ?_ _)|(with_reducible refine Kd.C_drewN ?_ _)|(with_reducible refine Kd.C_drew ?_))); (case side2 => exact (Kd.R_reads' HO153.out).2.1); rintro e w89 ⟨rfl, hb⟩; refine ⟨_, rfl, ?_⟩; have n0_:=K_ (Kd.R_below (by (with_reducible repeat (first|apply Kd.R_alloc|apply Kd.R_drewN|apply Kd.R_drew)); exact HO153.out) hb); have n1_:=K_ (blk_below (g := gb134) (o := .cells #[.int .u64 t138, .int .i64 t139] 56 (0, 0)) (by (with_reducible repeat (first|refine bN_ ?_ _|refine bD_ ?_|refine bA_ ?_ _)); exact BK134.out) hb); have n2_:=K_ (blk_below (g := gb135) (o := .cells #[.int .u64 t140, .int .i64 t141] 56 (0, 0)) (by (with_reducible repeat (first|refine bN_ ?_ _|refine bD_ ?_|refine bA_ ?_ _)); exact BK135.out) hb); have n3_:=K_ (blk_below (g := gb136) (o := .cells #[.int .u64 t142, .int .i64 t143] 56 (0, 0)) (by (with_reducible repeat (first|refine bN_ ?_ _|refine bD_ ?_|refine bA_ ?_ _)); exact BK136.out) hb); have n4_:=K_ (blk_below (g := gb144) (o := .cells #[.int .u64 t138, .int .i64 t139] 58 (0, 0)) (by (with_reducible repeat (first|refine bN_ ?_ _|refine bD_ ?_|refine bA_ ?_ _)); exact BK144.out) hb); have n5_:=K_ (blk_below (g := gb145) (o := .cells #[.int .u64 t140, .int .i64 t141] 58 (0, 0)) (by (with_reducible repeat (first|refine bN_ ?_ _|refine bD_ ?_|refine bA_ ?_ _)); exact BK145.out) hb); have n6_:=K_ (blk_below (g := gb146) (o := .cells #[.int .u64 t142, .int .i64 t143] 58 (0, 0)) (by (with_reducible repeat (first|refine bN_ ?_ _|refine bD_ ?_|refine bA_ ?_ _)); exact BK146.out) hb); have n7_:=K_ (below_step (by repeat (first|(with_reducible first|exact HB.out|apply pA_|apply pN_|apply pD_|refine bS_ ?_ GE134.out|refine bS_ ?_ GE135.out|refine bS_ ?_ GE136.out|refine bS_ ?_ GE144.out|refine bS_ ?_ GE145.out|refine bS_ ?_ GE146.out)|exact HB.out)) hb); clear HO153; clear BK134; clear BK135; clear BK136; clear BK144; clear BK145; clear BK146; clear HB; have HO153:=n0_; have BK134:=n1_; have BK135:=n2_; have BK136:=n3_; have BK144:=n4_; have BK145:=n5_; have BK146:=n6_; have HB:=n7_; clear n0_ n1_ n2_ n3_ n4_ n5_ n6_ n7_; (try clear hb); (try clear hb2); (try clear hk); (try clear hi))|((with_reducible refine gate_dst (N := 11) rfl ?_); refine box_event ?hg (N := 11) ?hd (cs := #[.int .u64 0, .int .i64 0]) (t := 58) ?hr ?_; (case hd => rfl); (case hg => rfl); (case hr => first|(go_simp; done)|(go_simp; rfl)); intro gb156 hg w90 hbox hb; have n0_:=K_ (Kd.R_below (Kd.R_elderB (by (with_reducible repeat (first|apply Kd.R_alloc|apply Kd.R_drewN|apply Kd.R_drew)); exact HO153.out) gb156 (Nat.le_of_eq hg.symm)) hb); have n1_:=K_ (blk_below (g := gb134) (o := .cells #[.int .u64 t138, .int .i64 t139] 56 (0, 0)) (by (with_reducible repeat (first|refine bN_ ?_ _|refine bD_ ?_|refine bA_ ?_ _)); exact BK134.out) hb); have n2_:=K_ (blk_below (g := gb135) (o := .cells #[.int .u64 t140, .int .i64 t141] 56 (0, 0)) (by (with_reducible repeat (first|refine bN_ ?_ _|refine bD_ ?_|refine bA_ ?_ _)); exact BK135.out) hb); have n3_:=K_ (blk_below (g := gb136) (o := .cells #[.int .u64 t142, .int .i64 t143] 56 (0, 0)) (by (with_reducible repeat (first|refine bN_ ?_ _|refine bD_ ?_|refine bA_ ?_ _)); exact BK136.out) hb); have n4_:=K_ (blk_below (g := gb144) (o := .cells #[.int .u64 t138, .int .i64 t139] 58 (0, 0)) (by (with_reducible repeat (first|refine bN_ ?_ _|refine bD_ ?_|refine bA_ ?_ _)); exact BK144.out) hb); have n5_:=K_ (blk_below (g := gb145) (o := .cells #[.int .u64 t140, .int .i64 t141] 58 (0, 0)) (by (with_reducible repeat (first|refine bN_ ?_ _|refine bD_ ?_|refine bA_ ?_ _)); exact BK145.out) hb); have n6_:=K_ (blk_below (g := gb146) (o := .cells #[.int .u64 t142, .int .i64 t143] 58 (0, 0)) (by (with_reducible repeat (first|refine bN_ ?_ _|refine bD_ ?_|refine bA_ ?_ _)); exact BK146.out) hb); have n7_:=K_ (below_step (by repeat (first|(with_reducible first|exact HB.out|apply pA_|apply pN_|apply pD_|refine bS_ ?_ GE134.out|refine bS_ ?_ GE135.out|refine bS_ ?_ GE136.out|refine bS_ ?_ GE144.out|refine bS_ ?_ GE145.out|refine bS_ ?_ GE146.out)|exact HB.out)) hb); have n8_:=K_ (hbox); have n9_:=K_ ((by rw [hg]; exact (below_size (by repeat (first|(with_reducible first|exact HB.out|apply pA_|apply pN_|apply pD_|refine bS_ ?_ GE134.out|refine bS_ ?_ GE135.out|refine bS_ ?_ GE136.out|refine bS_ ?_ GE144.out|refine bS_ ?_ GE145.out|refine bS_ ?_ GE146.out)|exact HB.out))) : w.heap.size ≤ gb156)); have n10_:=K_ ((by rw [hg]; exact (below_size (by repeat (first|(with_reducible first|exact HB.out|apply pA_|apply pN_|apply pD_|refine bS_ ?_ GE134.out|refine bS_ ?_ GE135.out|refine bS_ ?_ GE136.out|refine bS_ ?_ GE144.out|refine bS_ ?_ GE145.out|refine bS_ ?_ GE146.out)|exact HB.out))) : w.heap.size ≤ gb156)); have n11_:=K_ ((by rw [hg]; exact Nat.ne_of_lt (blk_lt (g := gb134) (o := .cells #[.int .u64 t138, .int .i64 t139] 56 (0, 0)) (by (with_reducible repeat (first|refine bN_ ?_ _|refine bD_ ?_|refine bA_ ?_ _)); exact BK134.out)) : gb134 ≠ gb156)); have n12_:=K_ ((by rw [hg]; exact Nat.ne_of_gt (blk_lt (g := gb134) (o := .cells #[.int .u64 t138, .int .i64 t139] 56 (0, 0)) (by (with_reducible repeat (first|refine bN_ ?_ _|refine bD_ ?_|refine bA_ ?_ _)); exact BK134.out)) : gb156 ≠ gb134)); have n13_:=K_ ((by rw [hg]; exact Nat.ne_of_lt (blk_lt (g := gb135) (o := .cells #[.int .u64 t140, .int .i64 t141] 56 (0, 0)) (by (with_reducible repeat (first|refine bN_ ?_ _|refine bD_ ?_|refine bA_ ?_ _)); exact BK135.out)) : gb135 ≠ gb156)); have n14_:=K_ ((by rw [hg]; exact Nat.ne_of_gt (blk_lt (g := gb135) (o := .cells #[.int .u64 t140, .int .i64 t141] 56 (0, 0)) (by (with_reducible repeat (first|refine bN_ ?_ _|refine bD_ ?_|refine bA_ ?_ _)); exact BK135.out)) : gb156 ≠ gb135)); have n15_:=K_ ((by rw [hg]; exact Nat.ne_of_lt (blk_lt (g := gb136) (o := .cells #[.int .u64 t142, .int .i64 t143] 56 (0, 0)) (by (with_reducible repeat (first|refine bN_ ?_ _|refine bD_ ?_|refine bA_ ?_ _)); exact BK136.out)) : gb136 ≠ gb156)); have n16_:=K_ ((by rw [hg]; exact Nat.ne_of_gt (blk_lt (g := gb136) (o := .cells #[.int .u64 t142, .int .i64 t143] 56 (0, 0)) (by (with_reducible repeat (first|refine bN_ ?_ _|refine bD_ ?_|refine bA_ ?_ _)); exact BK136.out)) : gb156 ≠ gb136)); have n17_:=K_ ((by rw [hg]; exact Nat.ne_of_lt (blk_lt (g := gb144) (o := .cells #[.int .u64 t138, .int .i64 t139] 58 (0, 0)) (by (with_reducible repeat (first|refine bN_ ?_ _|refine bD_ ?_|refine bA_ ?_ _)); exact BK144.out)) : gb144 ≠ gb156)); have n18_:=K_ ((by rw [hg]; exact Nat.ne_of_gt (blk_lt (g := gb144) (o := .cells #[.int .u64 t138, .int .i64 t139] 58 (0, 0)) (by (with_reducible repeat (first|refine bN_ ?_ _|refine bD_ ?_|refine bA_ ?_ _)); exact BK144.out)) : gb156 ≠ gb144)); have n19_:=K_ ((by rw [hg]; exact Nat.ne_of_lt (blk_lt (g := gb145) (o := .cells #[.int .u64 t140, .int .i64 t141] 58 (0, 0)) (by (with_reducible repeat (first|refine bN_ ?_ _|refine bD_ ?_|refine bA_ ?_ _)); exact BK145.out)) : gb145 ≠ gb156)); have n20_:=K_ ((by rw [hg]; exact Nat.ne_of_gt (blk_lt (g := gb145) (o := .cells #[.int .u64 t140, .int .i64 t141] 58 (0, 0)) (by (with_reducible repeat (first|refine bN_ ?_ _|refine bD_ ?_|refine bA_ ?_ _)); exact BK145.out)) : gb156 ≠ gb145)); have n21_:=K_ ((by rw [hg]; exact Nat.ne_of_lt (blk_lt (g := gb146) (o := .cells #[.int .u64 t142, .int .i64 t143] 58 (0, 0)) (by (with_reducible repeat (first|refine bN_ ?_ _|refine bD_ ?_|refine bA_ ?_ _)); exact BK146.out)) : gb146 ≠ gb156)); have n22_:=K_ ((by rw [hg]; exact Nat.ne_of_gt (blk_lt (g := gb146) (o := .cells #[.int .u64 t142, .int .i64 t143] 58 (0, 0)) (by (with_reducible repeat (first|refine bN_ ?_ _|refine bD_ ?_|refine bA_ ?_ _)); exact BK146.out)) : gb156 ≠ gb146)); clear HO153; clear BK134; clear BK135; clear BK136; clear BK144; clear BK145; clear BK146; clear HB; have HO153:=n0_; have BK134:=n1_; have BK135:=n2_; have BK136:=n3_; have BK144:=n4_; have BK145:=n5_; have BK146:=n6_; have HB:=n7_; have BK156:=n8_; have GW156:=n9_; have GE156:=n10_; have NB134_156:=n11_; have NB156_134:=n12_; have NB135_156:=n13_; have NB156_135:=n14_; have NB136_156:=n15_; have NB156_136:=n16_; have NB144_156:=n17_; have NB156_144:=n18_; have NB145_156:=n19_; have NB156_145:=n20_; have NB146_156:=n21_; have NB156_146:=n22_; clear n0_ n1_ n2_ n3_ n4_ n5_ n6_ n7_ n8_ n9_ n10_ n11_ n12_ n13_ n14_ n15_ n16_ n17_ n18_ n19_ n20_ n21_ n22_; clear hb hbox hg; have hnb91:=NB156_134.out; have hnc91:=NB134_156.out; have hnb92:=NB156_135.out; have hnc92:=NB135_156.out; have hnb93:=NB156_136.out; have hnc93:=NB136_156.out; have hnb94:=NB156_144.out; have hnc94:=NB144_156.out; have hnb95:=NB156_145.out; have hnc95:=NB145_156.out; have hnb96:=NB156_146.out; have hnc96:=NB146_156.out; have hcz97_0 : w90.cell? ⟨gb156, 0, none⟩ = some (.int .u64 0) := (blk_cell BK156.out 0).trans rfl; have hcz97_1 : w90.cell? ⟨gb156, 1, none⟩ = some (.int .i64 0) := (blk_cell BK156.out 1).trans rfl; have hfz97_0:=blk_frozen BK156.out 0; have hfz97_1:=blk_frozen BK156.out 1; have hcz98_0 : w90.cell? ⟨gb144, 0, none⟩ = some (.int .u64 t138) := (blk_cell BK144.out 0).trans rfl; have hcz98_1 : w90.cell? ⟨gb144, 1, none⟩ = some (.int .i64 t139) := (blk_cell BK144.out 1).trans rfl; have hfz98_0:=blk_frozen BK144.out 0; have hfz98_1:=blk_frozen BK144.out 1)|(go_at_call 40; (with_reducible refine (ballot_Compare.calls kj9 t154 t155 t138 t139 t157 _ A63.out).mono ?_); rintro e w99 ⟨rfl, hb⟩; have n0_:=K_ (Kd.R_below (by (with_reducible repeat (first|apply Kd.R_alloc|apply Kd.R_drewN|apply Kd.R_drew)); exact (Kd.R_mono (Kd.R_far (p := ⟨gb156, 1, none⟩) (Kd.R_far (p := ⟨gb156, 0, none⟩) (Kd.R_mono HO153.out (fun k_ hk => (⟨hk, hk.2⟩ : _ ∧ k_ ≠ gb156))) (fun _ hk => hk.2) (.int .u64 t154)) (fun _ hk => hk.2) (.int .i64 t155)) (fun _ h_ => h_.1))) hb); have n1_:=K_ (blk_below (g := gb134) (o := .cells #[.int .u64 t138, .int .i64 t139] 56 (0, 0)) (by (with_reducible repeat (first|refine bN_ ?_ _|refine bD_ ?_|refine bA_ ?_ _)); refine blk_far ?_ NB134_156.out _; (with_reducible repeat (first|refine bN_ ?_ _|refine bD_ ?_|refine bA_ ?_ _)); refine blk_far ?_ NB134_156.out _; (with_reducible repeat (first|refine bN_ ?_ _|refine bD_ ?_|refine bA_ ?_ _)); exact BK134.out) hb); have n2_:=K_ (blk_below (g := gb135) (o := .cells #[.int .u64 t140, .int .i64 t141] 56 (0, 0)) (by (with_reducible repeat (first|refine bN_ ?_ _|refine bD_ ?_|refine bA_ ?_ _)); refine blk_far ?_ NB135_156.out _; (with_reducible repeat (first|refine bN_ ?_ _|refine bD_ ?_|refine bA_ ?_ _)); refine blk_far ?_ NB135_156.out _; (with_reducible repeat (first|refine bN_ ?_ _|refine bD_ ?_|refine bA_ ?_ _)); exact BK135.out) hb); have n3_:=K_ (blk_below (g := gb136) (o := .cells #[.int .u64 t142, .int .i64 t143] 56 (0, 0)) (by (with_reducible repeat (first|refine bN_ ?_ _|refine bD_ ?_|refine bA_ ?_ _)); refine blk_far ?_ NB136_156.out _; (with_reducible repeat (first|refine bN_ ?_ _|refine bD_ ?_|refine bA_ ?_ _)); refine blk_far ?_ NB136_156.out _; (with_reducible repeat (first|refine bN_ ?_ _|refine bD_ ?_|refine bA_ ?_ _)); exact BK136.out) hb); have n4_:=K_ (blk_below (g := gb144) (o := .cells #[.int .u64 t138, .int .i64 t139] 58 (0, 0)) (by (with_reducible repeat (first|refine bN_ ?_ _|refine bD_ ?_|refine bA_ ?_ _)); refine blk_far ?_ NB144_156.out _; (with_reducible repeat (first|refine bN_ ?_ _|refine bD_ ?_|refine bA_ ?_ _)); refine blk_far ?_ NB144_156.out _; (with_reducible repeat (first|refine bN_ ?_ _|refine bD_ ?_|refine bA_ ?_ _)); exact BK144.out) hb); have n5_:=K_ (blk_below (g := gb145) (o := .cells #[.int .u64 t140, .int .i64 t141] 58 (0, 0)) (by (with_reducible repeat (first|refine bN_ ?_ _|refine bD_ ?_|refine bA_ ?_ _)); refine blk_far ?_ NB145_156.out _; (with_reducible repeat (first|refine bN_ ?_ _|refine bD_ ?_|refine bA_ ?_ _)); refine blk_far ?_ NB145_156.out _; (with_reducible repeat (first|refine bN_ ?_ _|refine bD_ ?_|refine bA_ ?_ _)); exact BK145.out) hb); have n6_:=K_ (blk_below (g := gb146) (o := .cells #[.int .u64 t142, .int .i64 t143] 58 (0, 0)) (by (with_reducible repeat (first|refine bN_ ?_ _|refine bD_ ?_|refine bA_ ?_ _)); refine blk_far ?_ NB146_156.out _; (with_reducible repeat (first|refine bN_ ?_ _|refine bD_ ?_|refine bA_ ?_ _)); refine blk_far ?_ NB146_156.out _; (with_reducible repeat (first|refine bN_ ?_ _|refine bD_ ?_|refine bA_ ?_ _)); exact BK146.out) hb); have n7_:=K_ (blk_below (g := gb156) (o := .cells #[.int .u64 t154, .int .i64 t155] 58 (0, 0)) (by (with_reducible repeat (first|refine bN_ ?_ _|refine bD_ ?_|refine bA_ ?_ _)); refine blk_put (cs := #[.int .u64 t154, .int .i64 0]) ?_ 1 _ rfl; (with_reducible repeat (first|refine bN_ ?_ _|refine bD_ ?_|refine bA_ ?_ _)); refine blk_put (cs := #[.int .u64 0, .int .i64 0]) ?_ 0 _ rfl; (with_reducible repeat (first|refine bN_ ?_ _|refine bD_ ?_|refine bA_ ?_ _)); exact BK156.out) hb); have n8_:=K_ (below_step (by repeat (first|(with_reducible first|exact HB.out|apply pA_|apply pN_|apply pD_|refine bS_ ?_ GE134.out|refine bS_ ?_ GE135.out|refine bS_ ?_ GE136.out|refine bS_ ?_ GE144.out|refine bS_ ?_ GE145.out|refine bS_ ?_ GE146.out|refine bS_ ?_ GE156.out)|exact HB.out)) hb); clear HO153; clear BK134; clear BK135; clear BK136; clear BK144; clear BK145; clear BK146; clear BK156; clear HB; have HO153:=n0_; have BK134:=n1_; have BK135:=n2_; have BK136:=n3_; have BK144:=n4_; have BK145:=n5_; have BK146:=n6_; have BK156:=n7_; have HB:=n8_; clear n0_ n1_ n2_ n3_ n4_ n5_ n6_ n7_ n8_; (try clear hb); (try clear hb2); (try clear hk); (try clear hi); have hcz100_0 : w99.cell? ⟨gb156, 0, none⟩ = some (.int .u64 t154) := (blk_cell BK156.out 0).trans rfl; have hcz100_1 : w99.cell? ⟨gb156, 1, none⟩ = some (.int .i64 t155) := (blk_cell BK156.out 1).trans rfl; have hfz100_0:=blk_frozen BK156.out 0; have hfz100_1:=blk_frozen BK156.out 1; have hcz101_0 : w99.cell? ⟨gb145, 0, none⟩ = some (.int .u64 t140) := (blk_cell BK145.out 0).trans rfl; have hcz101_1 : w99.cell? ⟨gb145, 1, none⟩ = some (.int .i64 t141) := (blk_cell BK145.out 1).trans rfl; have hfz101_0:=blk_frozen BK145.out 0; have hfz101_1:=blk_frozen BK145.out 1)|(go_at_call 40; (with_reducible refine (ballot_Compare.calls kj9 t154 t155 t140 t141 t158 _ A65.out).mono ?_); rintro e w102 ⟨rfl, hb⟩; have n0_:=K_ (Kd.R_below (by (with_reducible repeat (first|apply Kd.R_alloc|apply Kd.R_drewN|apply Kd.R_drew)); exact HO153.out) hb); have n1_:=K_ (blk_below (g := gb134) (o := .cells #[.int .u64 t138, .int .i64 t139] 56 (0, 0)) (by (with_reducible repeat (first|refine bN_ ?_ _|refine bD_ ?_|refine bA_ ?_ _)); exact BK134.out) hb); have n2_:=K_ (blk_below (g := gb135) (o := .cells #[.int .u64 t140, .int .i64 t141] 56 (0, 0)) (by (with_reducible repeat (first|refine bN_ ?_ _|refine bD_ ?_|refine bA_ ?_ _)); exact BK135.out) hb); have n3_:=K_ (blk_below (g := gb136) (o := .cells #[.int .u64 t142, .int .i64 t143] 56 (0, 0)) (by (with_reducible repeat (first|refine bN_ ?_ _|refine bD_ ?_|refine bA_ ?_ _)); exact BK136.out) hb); have n4_:=K_ (blk_below (g := gb144) (o := .cells #[.int .u64 t138, .int .i64 t139] 58 (0, 0)) (by (with_reducible repeat (first|refine bN_ ?_ _|refine bD_ ?_|refine bA_ ?_ _)); exact BK144.out) hb); have n5_:=K_ (blk_below (g := gb145) (o := .cells #[.int .u64 t140, .int .i64 t141] 58 (0, 0)) (by (with_reducible repeat (first|refine bN_ ?_ _|refine bD_ ?_|refine bA_ ?_ _)); exact BK145.out) hb); have n6_:=K_ (blk_below (g := gb146) (o := .cells #[.int .u64 t142, .int .i64 t143] 58 (0, 0)) (by (with_reducible repeat (first|refine bN_ ?_ _|refine bD_ ?_|refine bA_ ?_ _)); exact BK146.out) hb); have n7_:=K_ (blk_below (g := gb156) (o := .cells #[.int .u64 t154, .int .i64 t155] 58 (0, 0)) (by (with_reducible repeat (first|refine bN_ ?_ _|refine bD_ ?_|refine bA_ ?_ _)); exact BK156.out) hb); have n8_:=K_ (below_step (by repeat (first|(with_reducible first|exact HB.out|apply pA_|apply pN_|apply pD_|refine bS_ ?_ GE134.out|refine bS_ ?_ GE135.out|refine bS_ ?_ GE136.out|refine bS_ ?_ GE144.out|refine bS_ ?_ GE145.out|refine bS_ ?_ GE146.out|refine bS_ ?_ GE156.out)|exact HB.out)) hb); clear HO153; clear BK134; clear BK135; clear BK136; clear BK144; clear BK145; clear BK146; clear BK156; clear HB; have HO153:=n0_; have BK134:=n1_; have BK135:=n2_; have BK136:=n3_; have BK144:=n4_; have BK145:=n5_; have BK146:=n6_; have BK156:=n7_; have HB:=n8_; clear n0_ n1_ n2_ n3_ n4_ n5_ n6_ n7_ n8_; (try clear hb); (try clear hb2); (try clear hk); (try clear hi); have hcz103_0 : w102.cell? ⟨gb156, 0, none⟩ = some (.int .u64 t154) := (blk_cell BK156.out 0).trans rfl; have hcz103_1 : w102.cell? ⟨gb156, 1, none⟩ = some (.int .i64 t155) := (blk_cell BK156.out 1).trans rfl; have hfz103_0:=blk_frozen BK156.out 0; have hfz103_1:=blk_frozen BK156.out 1; have hcz104_0 : w102.cell? ⟨gb146, 0, none⟩ = some (.int .u64 t142) := (blk_cell BK146.out 0).trans rfl; have hcz104_1 : w102.cell? ⟨gb146, 1, none⟩ = some (.int .i64 t143) := (blk_cell BK146.out 1).trans rfl; have hfz104_0:=blk_frozen BK146.out 0; have hfz104_1:=blk_frozen BK146.out 1)|(go_at_call 40; (with_reducible refine (ballot_Compare.calls kj9 t154 t155 t142 t143 t159 _ A67.out).mono ?_); rintro e w105 ⟨rfl, hb⟩; have n0_:=K_ (Kd.R_below (by (with_reducible repeat (first|apply Kd.R_alloc|apply Kd.R_drewN|apply Kd.R_drew)); exact HO153.out) hb); have n1_:=K_ (blk_below (g := gb134) (o := .cells #[.int .u64 t138, .int .i64 t139] 56 (0, 0)) (by (with_reducible repeat (first|refine bN_ ?_ _|refine bD_ ?_|refine bA_ ?_ _)); exact BK134.out) hb); have n2_:=K_ (blk_below (g := gb135) (o := .cells #[.int .u64 t140, .int .i64 t141] 56 (0, 0)) (by (with_reducible repeat (first|refine bN_ ?_ _|refine bD_ ?_|refine bA_ ?_ _)); exact BK135.out) hb); have n3_:=K_ (blk_below (g := gb136) (o := .cells #[.int .u64 t142, .int .i64 t143] 56 (0, 0)) (by (with_reducible repeat (first|refine bN_ ?_ _|refine bD_ ?_|refine bA_ ?_ _)); exact BK136.out) hb); have n4_:=K_ (blk_below (g := gb144) (o := .cells #[.int .u64 t138, .int .i64 t139] 58 (0, 0)) (by (with_reducible repeat (first|refine bN_ ?_ _|refine bD_ ?_|refine bA_ ?_ _)); exact BK144.out) hb); have n5_:=K_ (blk_below (g := gb145) (o := .cells #[.int .u64 t140, .int .i64 t141] 58 (0, 0)) (by (with_reducible repeat (first|refine bN_ ?_ _|refine bD_ ?_|refine bA_ ?_ _)); exact BK145.out) hb); have n6_:=K_ (blk_below (g := gb146) (o := .cells #[.int .u64 t142, .int .i64 t143] 58 (0, 0)) (by (with_reducible repeat (first|refine bN_ ?_ _|refine bD_ ?_|refine bA_ ?_ _)); exact BK146.out) hb); have n7_:=K_ (blk_below (g := gb156) (o := .cells #[.int .u64 t154, .int .i64 t155] 58 (0, 0)) (by (with_reducible repeat (first|refine bN_ ?_ _|refine bD_ ?_|refine bA_ ?_ _)); exact BK156.out) hb); have n8_:=K_ (below_step (by repeat (first|(with_reducible first|exact HB.out|apply pA_|apply pN_|apply pD_|refine bS_ ?_ GE134.out|refine bS_ ?_ GE135.out|refine bS_ ?_ GE136.out|refine bS_ ?_ GE144.out|refine bS_ ?_ GE145.out|refine bS_ ?_ GE146.out|refine bS_ ?_ GE156.out)|exact HB.out)) hb); clear HO153; clear BK134; clear BK135; clear BK136; clear BK144; clear BK145; clear BK146; clear BK156; clear HB; have HO153:=n0_; have BK134:=n1_; have BK135:=n2_; have BK136:=n3_; have BK144:=n4_; have BK145:=n5_; have BK146:=n6_; have BK156:=n7_; have HB:=n8_; clear n0_ n1_ n2_ n3_ n4_ n5_ n6_ n7_ n8_; (try clear hb); (try clear hb2); (try clear hk); (try clear hi))|(go_at_call 43; (refine (ballot_Max.calls kj9 _ _ ([] : List (S58)) t160 t161 _ ?side1 ?side2 A69.out).mono ?_); (case side1 => exact Kd.C_nil _ _); (case side2 => exact Nat.le_refl _); rintro e w106 ⟨rfl, hb⟩; have n0_:=K_ (Kd.R_below (by (with_reducible repeat (first|apply Kd.R_alloc|apply Kd.R_drewN|apply Kd.R_drew)); exact HO153.out) hb); have n1_:=K_ (blk_below (g := gb134) (o := .cells #[.int .u64 t138, .int .i64 t139] 56 (0, 0)) (by (with_reducible repeat (first|refine bN_ ?_ _|refine bD_ ?_|refine bA_ ?_ _)); exact BK134.out) hb); have n2_:=K_ (blk_below (g := gb135) (o := .cells #[.int .u64 t140, .int .i64 t141] 56 (0, 0)) (by (with_reducible repeat (first|refine bN_ ?_ _|refine bD_ ?_|refine bA_ ?_ _)); exact BK135.out) hb); have n3_:=K_ (blk_below (g := gb136) (o := .cells #[.int .u64 t142, .int .i64 t143] 56 (0, 0)) (by (with_reducible repeat (first|refine bN_ ?_ _|refine bD_ ?_|refine bA_ ?_ _)); exact BK136.out) hb); have n4_:=K_ (blk_below (g := gb144) (o := .cells #[.int .u64 t138, .int .i64 t139] 58 (0, 0)) (by (with_reducible repeat (first|refine bN_ ?_ _|refine bD_ ?_|refine bA_ ?_ _)); exact BK144.out) hb); have n5_:=K_ (blk_below (g := gb145) (o := .cells #[.int .u64 t140, .int .i64 t141] 58 (0, 0)) (by (with_reducible repeat (first|refine bN_ ?_ _|refine bD_ ?_|refine bA_ ?_ _)); exact BK145.out) hb); have n6_:=K_ (blk_below (g := gb146) (o := .cells #[.int .u64 t142, .int .i64 t143] 58 (0, 0)) (by (with_reducible repeat (first|refine bN_ ?_ _|refine bD_ ?_|refine bA_ ?_ _)); exact BK146.out) hb); have n7_:=K_ (blk_below (g := gb156) (o := .cells #[.int .u64 t154, .int .i64 t155] 58 (0, 0)) (by (with_reducible repeat (first|refine bN_ ?_ _|refine bD_ ?_|refine bA_ ?_ _)); exact BK156.out) hb); have n8_:=K_ (below_step (by repeat (first|(with_reducible first|exact HB.out|apply pA_|apply pN_|apply pD_|refine bS_ ?_ GE134.out|refine bS_ ?_ GE135.out|refine bS_ ?_ GE136.out|refine bS_ ?_ GE144.out|refine bS_ ?_ GE145.out|refine bS_ ?_ GE146.out|refine bS_ ?_ GE156.out)|exact HB.out)) hb); clear HO153; clear BK134; clear BK135; clear BK136; clear BK144; clear BK145; clear BK146; clear BK156; clear HB; have HO153:=n0_; have BK134:=n1_; have BK135:=n2_; have BK136:=n3_; have BK144:=n4_; have BK145:=n5_; have BK146:=n6_; have BK156:=n7_; have HB:=n8_; clear n0_ n1_ n2_ n3_ n4_ n5_ n6_ n7_ n8_; (try clear hb); (try clear hb2); (try clear hk); (try clear hi))|(go_at_call 42; (with_reducible refine (ballot_Ballot_None.calls t160 t161 t162 _ A70.out).mono ?_); rintro e w107 ⟨rfl, hb⟩; have n0_:=K_ (Kd.R_below (by (with_reducible repeat (first|apply Kd.R_alloc|apply Kd.R_drewN|apply Kd.R_drew)); exact HO153.out) hb); have n1_:=K_ (blk_below (g := gb134) (o := .cells #[.int .u64 t138, .int .i64 t139] 56 (0, 0)) (by (with_reducible repeat (first|refine bN_ ?_ _|refine bD_ ?_|refine bA_ ?_ _)); exact BK134.out) hb); have n2_:=K_ (blk_below (g := gb135) (o := .cells #[.int .u64 t140, .int .i64 t141] 56 (0, 0)) (by (with_reducible repeat (first|refine bN_ ?_ _|refine bD_ ?_|refine bA_ ?_ _)); exact BK135.out) hb); have n3_:=K_ (blk_below (g := gb136) (o := .cells #[.int .u64 t142, .int .i64 t143] 56 (0, 0)) (by (with_reducible repeat (first|refine bN_ ?_ _|refine bD_ ?_|refine bA_ ?_ _)); exact BK136.out) hb); have n4_:=K_ (blk_below (g := gb144) (o := .cells #[.int .u64 t138, .int .i64 t139] 58 (0, 0)) (by (with_reducible repeat (first|refine bN_ ?_ _|refine bD_ ?_|refine bA_ ?_ _)); exact BK144.out) hb); have n5_:=K_ (blk_below (g := gb145) (o := .cells #[.int .u64 t140, .int .i64 t141] 58 (0, 0)) (by (with_reducible repeat (first|refine bN_ ?_ _|refine bD_ ?_|refine bA_ ?_ _)); exact BK145.out) hb); have n6_:=K_ (blk_below (g := gb146) (o := .cells #[.int .u64 t142, .int .i64 t143] 58 (0, 0)) (by (with_reducible repeat (first|refine bN_ ?_ _|refine bD_ ?_|refine bA_ ?_ _)); exact BK146.out) hb); have n7_:=K_ (blk_below (g := gb156) (o := .cells #[.int .u64 t154, .int .i64 t155] 58 (0, 0)) (by (with_reducible repeat (first|refine bN_ ?_ _|refine bD_ ?_|refine bA_ ?_ _)); exact BK156.out) hb); have n8_:=K_ (below_step (by repeat (first|(with_reducible first|exact HB.out|apply pA_|apply pN_|apply pD_|refine bS_ ?_ GE134.out|refine bS_ ?_ GE135.out|refine bS_ ?_ GE136.out|refine bS_ ?_ GE144.out|refine bS_ ?_ GE145.out|refine bS_ ?_ GE146.out|refine bS_ ?_ GE156.out)|exact HB.out)) hb); clear HO153; clear BK134; clear BK135; clear BK136; clear BK144; clear BK145; clear BK146; clear BK156; clear HB; have HO153:=n0_; have BK134:=n1_; have BK135:=n2_; have BK136:=n3_; have BK144:=n4_; have BK145:=n5_; have BK146:=n6_; have BK156:=n7_; have HB:=n8_; clear n0_ n1_ n2_ n3_ n4_ n5_ n6_ n7_ n8_; (try clear hb); (try clear hb2); (try clear hk); (try clear hi)))
         go_ret
         exact ⟨by first|rfl|(simp [errW_none, errW_some] <;> rfl)|(simp [*, errW_none, errW_some] <;> rfl), by repeat (first|(with_reducible first|exact HB.out|apply pA_|apply pN_|apply pD_|refine bS_ ?_ GE134.out|refine bS_ ?_ GE135.out|refine bS_ ?_ GE136.out|refine bS_ ?_ GE144.out|refine bS_ ?_ GE145.out|refine bS_ ?_ GE146.out|refine bS_ ?_ GE156.out)|exact HB.out)⟩
        ·
         rw [if_neg c68] at H
         have c68b0 : decide (0 ≤ t159) = false := decide_eq_false c68
         clear c68
         obtain rfl := Option.some.inj H
         exact absurd hr_ (by decide)
       ·
        rw [if_neg c66] at H
        have c66b0 : decide (0 ≤ t158) = false := decide_eq_false c66
        clear c66
        obtain rfl := Option.some.inj H
        exact absurd hr_ (by decide)
      ·
       rw [if_neg c64] at H
       have c64b0 : decide (0 ≤ t157) = false := decide_eq_false c64
       clear c64
       obtain rfl := Option.some.inj H
       exact absurd hr_ (by decide)
     ·
      rw [if_neg c62] at H
      have c62b0 : (t154 == t138 && (t155 == t139)) = false := by simpa using c62
      (try (have c62b1 : decide (t154 = t138 && (t155 == t139)) = false := by simpa using c62))
      (try (have c62b2 : (t154 == t138 && (t155 == t139)) = false := by simpa using c62))
      (try (have c62b3 : ¬ (t154 = t138 && (t155 == t139)) := by simpa using c62))
      clear c62
      by_cases c108 : (t154 == t140 && (t155 == t141)) = true
      ·
       rw [if_pos c108] at H
       have c108b0 : (t154 == t140 && (t155 == t141)) = true := c108
       (try (have c108b1 : decide (t154 = t140 && (t155 == t141)) = true := by simpa using c108))
       (try (have c108b2 : (t154 == t140 && (t155 == t141)) = true := by simpa using c108))
       clear c108
       replace H := Option.bind_eq_some_iff.mp H
       obtain ⟨t163, A1090, H⟩ := H
       replace H : (if t163 ≥ 0 then ((ballot_Compare.f kj9 t154 t155 t140 t141).bind fun t164 => (if t164 ≥ 0 then ((ballot_Compare.f kj9 t154 t155 t142 t143).bind fun t165 => (if t165 ≥ 0 then ((ballot_Max.f kj9 ([] : List (S58))).bind fun bt166 => ((ballot_Ballot_None.f bt166.1 bt166.2).bind fun t168 => (some t168))) else (some false))) else (some false))) else (some false)) = some r := H
       have A109:=K_ A1090
       clear A1090
       by_cases c110 : t163 ≥ 0
       ·
        rw [if_pos c110] at H
        have c110b0 : decide (0 ≤ t163) = true := decide_eq_true c110
        clear c110
        replace H := Option.bind_eq_some_iff.mp H
        obtain ⟨t164, A1110, H⟩ := H
        replace H : (if t164 ≥ 0 then ((ballot_Compare.f kj9 t154 t155 t142 t143).bind fun t165 => (if t165 ≥ 0 then ((ballot_Max.f kj9 ([] : List (S58))).bind fun bt166 => ((ballot_Ballot_None.f bt166.1 bt166.2).bind fun t168 => (some t168))) else (some false))) else (some false)) = some r := H
        have A111:=K_ A1110
        clear A1110
        by_cases c112 : t164 ≥ 0
        ·
         rw [if_pos c112] at H
         have c112b0 : decide (0 ≤ t164) = true := decide_eq_true c112
         clear c112
         replace H := Option.bind_eq_some_iff.mp H
         obtain ⟨t165, A1130, H⟩ := H
         replace H : (if t165 ≥ 0 then ((ballot_Max.f kj9 ([] : List (S58))).bind fun bt166 => ((ballot_Ballot_None.f bt166.1 bt166.2).bind fun t168 => (some t168))) else (some false)) = some r := H
         have A113:=K_ A1130
         clear A1130
         by_cases c114 : t165 ≥ 0
         ·
          rw [if_pos c114] at H
          have c114b0 : decide (0 ≤ t165) = true := decide_eq_true c114
          clear c114
          replace H := Option.bind_eq_some_iff.mp H
          obtain ⟨⟨t166, t167⟩, A1150, H⟩ := H
          replace H : ((ballot_Ballot_None.f t166 t167).bind fun t168 => (some t168)) = some r := H
          have A115:=K_ A1150
          clear A1150
          replace H := Option.bind_eq_some_iff.mp H
          obtain ⟨t168, A1160, H⟩ := H
          replace H : (some t168) = some r := H
          have A116:=K_ A1160
          clear A1160
          obtain rfl := Option.some.inj H
          clear hr_
          have hnb117:=NB144_134.out
          have hnc117:=NB134_144.out
          have hnb118:=NB144_135.out
          have hnc118:=NB135_144.out
          have hnb119:=NB144_136.out
          have hnc119:=NB136_144.out
          have hnb120:=NB144_145.out
          have hnc120:=NB145_144.out
          have hnb121:=NB144_146.out
          have hnc121:=NB146_144.out
          have hcz122_0 : wc.cell? ⟨gb144, 0, none⟩ = some (.int .u64 t138) := (blk_cell BK144.out 0).trans rfl
          have hcz122_1 : wc.cell? ⟨gb144, 1, none⟩ = some (.int .i64 t139) := (blk_cell BK144.out 1).trans rfl
          have hfz122_0:=blk_frozen BK144.out 0
          have hfz122_1:=blk_frozen BK144.out 1
          have hnb123:=NB145_134.out
          have hnc123:=NB134_145.out
          have hnb124:=NB145_135.out
          have hnc124:=NB135_145.out
          have hnb125:=NB145_136.out
          have hnc125:=NB136_145.out
          have hnb126:=NB145_146.out
          have hnc126:=NB146_145.out
          have hcz127_0 : wc.cell? ⟨gb145, 0, none⟩ = some (.int .u64 t140) := (blk_cell BK145.out 0).trans rfl
          have hcz127_1 : wc.cell? ⟨gb145, 1, none⟩ = some (.int .i64 t141) := (blk_cell BK145.out 1).trans rfl
          have hfz127_0:=blk_frozen BK145.out 0
          have hfz127_1:=blk_frozen BK145.out 1
          have hnb128:=NB146_134.out
          have hnc128:=NB134_146.out
          have hnb129:=NB146_135.out
          have hnc129:=NB135_146.out
          have hnb130:=NB146_136.out
          have hnc130:=NB136_146.out
          have hcz131_0 : wc.cell? ⟨gb146, 0, none⟩ = some (.int .u64 t142) := (blk_cell BK146.out 0).trans rfl
          have hcz131_1 : wc.cell? ⟨gb146, 1, none⟩ = some (.int .i64 t143) := (blk_cell BK146.out 1).trans rfl
          have hfz131_0:=blk_frozen BK146.out 0
          have hfz131_1:=blk_frozen BK146.out 1
          go_wp2_with (first|((with_reducible refine gate_dst (N := 59) rfl ?_); refine Kd.R_lit k58 _ 58 ?hg (N := 59) ?hd (xs := ([(⟨t138, t139⟩ : S58), (⟨t140, t141⟩ : S58), (⟨t142, t143⟩ : S58)] : List (S58))) (inner := [.int .u64 t138, .int .i64 t139, .int .u64 t140, .int .i64 t141, .int .u64 t142, .int .i64 t143]) (ok := fun _ => True) (okp := fun _ => True) ?hr ?hp (fun _ hk => hk) trivial (Below.refl _ _) (Nat.le_refl _) (by simp) ?_; (case hd => rfl); (case hg => rfl); (case hr => first|(go_simp; done)|(go_simp; rfl)); (case hp => exact (Reps.c2 (show Kd.M k58 _ _ _ (⟨t138, t139⟩ : S58) [.int .u64 t138, .int .i64 t139] from (k58_mkM _ _ _ (⟨t138, t139⟩ : S58) )) (Reps.c2 (show Kd.M k58 _ _ _ (⟨t140, t141⟩ : S58) [.int .u64 t140, .int .i64 t141] from (k58_mkM _ _ _ (⟨t140, t141⟩ : S58) )) (Reps.c2 (show Kd.M k58 _ _ _ (⟨t142, t143⟩ : S58) [.int .u64 t142, .int .i64 t143] from (k58_mkM _ _ _ (⟨t142, t143⟩ : S58) )) (Reps.none _ _))))); intro v152 w132 ho133 hb hg_ hnew_; clear hg_ hnew_; (first|rw [← Ny151.out] at ho133|(simp only [Int.reduceToNat] at ho133; rw [← Ny151.out] at ho133)); have n0_:=K_ (Kd.R_lower (Kd.R_newB (Kd.R_newB (Kd.R_newB ho133 (g := gb144) (o := .cells #[.int .u64 t138, .int .i64 t139] 58 (0, 0)) (by (with_reducible repeat (first|refine bN_ ?_ _|refine bD_ ?_|refine bA_ ?_ _)); exact BK144.out)) (g := gb145) (o := .cells #[.int .u64 t140, .int .i64 t141] 58 (0, 0)) (by (with_reducible repeat (first|refine bN_ ?_ _|refine bD_ ?_|refine bA_ ?_ _)); exact BK145.out)) (g := gb146) (o := .cells #[.int .u64 t142, .int .i64 t143] 58 (0, 0)) (by (with_reducible repeat (first|refine bN_ ?_ _|refine bD_ ?_|refine bA_ ?_ _)); exact BK146.out)) (below_size (by repeat (first|(with_reducible first|exact HB.out|apply pA_|apply pN_|apply pD_|refine bS_ ?_ GE134.out|refine bS_ ?_ GE135.out|refine bS_ ?_ GE136.out|refine bS_ ?_ GE144.out|refine bS_ ?_ GE145.out|refine bS_ ?_ GE146.out)|exact HB.out)))); have n1_:=K_ (blk_below (g := gb134) (o := .cells #[.int .u64 t138, .int .i64 t139] 56 (0, 0)) (by (with_reducible repeat (first|refine bN_ ?_ _|refine bD_ ?_|refine bA_ ?_ _)); exact BK134.out) hb); have n2_:=K_ (blk_below (g := gb135) (o := .cells #[.int .u64 t140, .int .i64 t141] 56 (0, 0)) (by (with_reducible repeat (first|refine bN_ ?_ _|refine bD_ ?_|refine bA_ ?_ _)); exact BK135.out) hb); have n3_:=K_ (blk_below (g := gb136) (o := .cells #[.int .u64 t142, .int .i64 t143] 56 (0, 0)) (by (with_reducible repeat (first|refine bN_ ?_ _|refine bD_ ?_|refine bA_ ?_ _)); exact BK136.out) hb); have n4_:=K_ (blk_below (g := gb144) (o := .cells #[.int .u64 t138, .int .i64 t139] 58 (0, 0)) (by (with_reducible repeat (first|refine bN_ ?_ _|refine bD_ ?_|refine bA_ ?_ _)); exact BK144.out) hb); have n5_:=K_ (blk_below (g := gb145) (o := .cells #[.int .u64 t140, .int .i64 t141] 58 (0, 0)) (by (with_reducible repeat (first|refine bN_ ?_ _|refine bD_ ?_|refine bA_ ?_ _)); exact BK145.out) hb); have n6_:=K_ (blk_below (g := gb146) (o := .cells #[.int .u64 t142, .int .i64 t143] 58 (0, 0)) (by (with_reducible repeat (first|refine bN_ ?_ _|refine bD_ ?_|refine bA_ ?_ _)); exact BK146.out) hb); have n7_:=K_ (below_step (by repeat (first|(with_reducible first|exact HB.out|apply pA_|apply pN_|apply pD_|refine bS_ ?_ GE134.out|refine bS_ ?_ GE135.out|refine bS_ ?_ GE136.out|refine bS_ ?_ GE144.out|refine bS_ ?_ GE145.out|refine bS_ ?_ GE146.out)|exact HB.out)) hb); clear BK134; clear BK135; clear BK136; clear BK144; clear BK145; clear BK146; clear HB; have HO153:=n0_; have BK134:=n1_; have BK135:=n2_; have BK136:=n3_; have BK144:=n4_; have BK145:=n5_; have BK146:=n6_; have HB:=n7_; clear n0_ n1_ n2_ n3_ n4_ n5_ n6_ n7_; clear hb ho133; obtain ⟨Ao134, co134, eo134⟩ := Kd.R_slice HO153.out; subst eo134)|((with_reducible refine gate_callee (f := 43) rfl ?_); refine goesL_ (some 60) rfl rfl Try.func43 (by kernel_rfl) rfl #[.slice Ao134 y151.length co134] rfl (by (try simp only [List.map_toArray, List.map_cons, List.map_nil]); first|done|rfl|(simp only [List.length_drop, List.length_take]; rfl)) ?_; (with_reducible refine (ballot_Max.calls kj9 _ _ y151 t154 t155 _ ?side1 ?side2 A61.out).mono ?_); (case side1 => repeat (first|exact (Kd.R_reads' HO153.out).2.2|(with_reducible refine Kd.C_alloc ?_ _)|(with_reducible refine Kd.C_drewN ?_ _)|(with_reducible refine Kd.C_drew ?_))); (case side2 => exact (Kd.R_reads' HO153.out).2.1); rintro e w135 ⟨rfl, hb⟩; refine ⟨_, rfl, ?_⟩; have n0_:=K_ (Kd.R_below (by (with_reducible repeat (first|apply Kd.R_alloc|apply Kd.R_drewN|apply Kd.R_drew)); exact HO153.out) hb); have n1_:=K_ (blk_below (g := gb134) (o := .cells #[.int .u64 t138, .int .i64 t139] 56 (0, 0)) (by (with_reducible repeat (first|refine bN_ ?_ _|refine bD_ ?_|refine bA_ ?_ _)); exact BK134.out) hb); have n2_:=K_ (blk_below (g := gb135) (o := .cells #[.int .u64 t140, .int .i64 t141] 56 (0, 0)) (by (with_reducible repeat (first|refine bN_ ?_ _|refine bD_ ?_|refine bA_ ?_ _)); exact BK135.out) hb); have n3_:=K_ (blk_below (g := gb136) (o := .cells #[.int .u64 t142, .int .i64 t143] 56 (0, 0)) (by (with_reducible repeat (first|refine bN_ ?_ _|refine bD_ ?_|refine bA_ ?_ _)); exact BK136.out) hb); have n4_:=K_ (blk_below (g := gb144) (o := .cells #[.int .u64 t138, .int .i64 t139] 58 (0, 0)) (by (with_reducible repeat (first|refine bN_ ?_ _|refine bD_ ?_|refine bA_ ?_ _)); exact BK144.out) hb); have n5_:=K_ (blk_below (g := gb145) (o := .cells #[.int .u64 t140, .int .i64 t141] 58 (0, 0)) (by (with_reducible repeat (first|refine bN_ ?_ _|refine bD_ ?_|refine bA_ ?_ _)); exact BK145.out) hb); have n6_:=K_ (blk_below (g := gb146) (o := .cells #[.int .u64 t142, .int .i64 t143] 58 (0, 0)) (by (with_reducible repeat (first|refine bN_ ?_ _|refine bD_ ?_|refine bA_ ?_ _)); exact BK146.out) hb); have n7_:=K_ (below_step (by repeat (first|(with_reducible first|exact HB.out|apply pA_|apply pN_|apply pD_|refine bS_ ?_ GE134.out|refine bS_ ?_ GE135.out|refine bS_ ?_ GE136.out|refine bS_ ?_ GE144.out|refine bS_ ?_ GE145.out|refine bS_ ?_ GE146.out)|exact HB.out)) hb); clear HO153; clear BK134; clear BK135; clear BK136; clear BK144; clear BK145; clear BK146; clear HB; have HO153:=n0_; have BK134:=n1_; have BK135:=n2_; have BK136:=n3_; have BK144:=n4_; have BK145:=n5_; have BK146:=n6_; have HB:=n7_; clear n0_ n1_ n2_ n3_ n4_ n5_ n6_ n7_; (try clear hb); (try clear hb2); (try clear hk); (try clear hi))|((with_reducible refine gate_dst (N := 11) rfl ?_); refine box_event ?hg (N := 11) ?hd (cs := #[.int .u64 0, .int .i64 0]) (t := 58) ?hr ?_; (case hd => rfl); (case hg => rfl); (case hr => first|(go_simp; done)|(go_simp; rfl)); intro gb156 hg w136 hbox hb; have n0_:=K_ (Kd.R_below (Kd.R_elderB (by (with_reducible repeat (first|apply Kd.R_alloc|apply Kd.R_drewN|apply Kd.R_drew)); exact HO153.out) gb156 (Nat.le_of_eq hg.symm)) hb); have n1_:=K_ (blk_below (g := gb134) (o := .cells #[.int .u64 t138, .int .i64 t139] 56 (0, 0)) (by (with_reducible repeat (first|refine bN_ ?_ _|refine bD_ ?_|refine bA_ ?_ _)); exact BK134.out) hb); have n2_:=K_ (blk_below (g := gb135) (o := .cells #[.int .u64 t140, .int .i64 t141] 56 (0, 0)) (by (with_reducible repeat (first|refine bN_ ?_ _|refine bD_ ?_|refine bA_ ?_ _)); exact BK135.out) hb); have n3_:=K_ (blk_below (g := gb136) (o := .cells #[.int .u64 t142, .int .i64 t143] 56 (0, 0)) (by (with_reducible repeat (first|refine bN_ ?_ _|refine bD_ ?_|refine bA_ ?_ _)); exact BK136.out) hb); have n4_:=K_ (blk_below (g := gb144) (o := .cells #[.int .u64 t138, .int .i64 t139] 58 (0, 0)) (by (with_reducible repeat (first|refine bN_ ?_ _|refine bD_ ?_|refine bA_ ?_ _)); exact BK144.out) hb); have n5_:=K_ (blk_below (g := gb145) (o := .cells #[.int .u64 t140, .int .i64 t141] 58 (0, 0)) (by (with_reducible repeat (first|refine bN_ ?_ _|refine bD_ ?_|refine bA_ ?_ _)); exact BK145.out) hb); have n6_:=K_ (blk_below (g := gb146) (o := .cells #[.int .u64 t142, .int .i64 t143] 58 (0, 0)) (by (with_reducible repeat (first|refine bN_ ?_ _|refine bD_ ?_|refine bA_ ?_ _)); exact BK146.out) hb); have n7_:=K_ (below_step (by repeat (first|(with_reducible first|exact HB.out|apply pA_|apply pN_|apply pD_|refine bS_ ?_ GE134.out|refine bS_ ?_ GE135.out|refine bS_ ?_ GE136.out|refine bS_ ?_ GE144.out|refine bS_ ?_ GE145.out|refine bS_ ?_ GE146.out)|exact HB.out)) hb); have n8_:=K_ (hbox); have n9_:=K_ ((by rw [hg]; exact (below_size (by repeat (first|(with_reducible first|exact HB.out|apply pA_|apply pN_|apply pD_|refine bS_ ?_ GE134.out|refine bS_ ?_ GE135.out|refine bS_ ?_ GE136.out|refine bS_ ?_ GE144.out|refine bS_ ?_ GE145.out|refine bS_ ?_ GE146.out)|exact HB.out))) : w.heap.size ≤ gb156)); have n10_:=K_ ((by rw [hg]; exact (below_size (by repeat (first|(with_reducible first|exact HB.out|apply pA_|apply pN_|apply pD_|refine bS_ ?_ GE134.out|refine bS_ ?_ GE135.out|refine bS_ ?_ GE136.out|refine bS_ ?_ GE144.out|refine bS_ ?_ GE145.out|refine bS_ ?_ GE146.out)|exact HB.out))) : w.heap.size ≤ gb156)); have n11_:=K_ ((by rw [hg]; exact Nat.ne_of_lt (blk_lt (g := gb134) (o := .cells #[.int .u64 t138, .int .i64 t139] 56 (0, 0)) (by (with_reducible repeat (first|refine bN_ ?_ _|refine bD_ ?_|refine bA_ ?_ _)); exact BK134.out)) : gb134 ≠ gb156)); have n12_:=K_ ((by rw [hg]; exact Nat.ne_of_gt (blk_lt (g := gb134) (o := .cells #[.int .u64 t138, .int .i64 t139] 56 (0, 0)) (by (with_reducible repeat (first|refine bN_ ?_ _|refine bD_ ?_|refine bA_ ?_ _)); exact BK134.out)) : gb156 ≠ gb134)); have n13_:=K_ ((by rw [hg]; exact Nat.ne_of_lt (blk_lt (g := gb135) (o := .cells #[.int .u64 t140, .int .i64 t141] 56 (0, 0)) (by (with_reducible repeat (first|refine bN_ ?_ _|refine bD_ ?_|refine bA_ ?_ _)); exact BK135.out)) : gb135 ≠ gb156)); have n14_:=K_ ((by rw [hg]; exact Nat.ne_of_gt (blk_lt (g := gb135) (o := .cells #[.int .u64 t140, .int .i64 t141] 56 (0, 0)) (by (with_reducible repeat (first|refine bN_ ?_ _|refine bD_ ?_|refine bA_ ?_ _)); exact BK135.out)) : gb156 ≠ gb135)); have n15_:=K_ ((by rw [hg]; exact Nat.ne_of_lt (blk_lt (g := gb136) (o := .cells #[.int .u64 t142, .int .i64 t143] 56 (0, 0)) (by (with_reducible repeat (first|refine bN_ ?_ _|refine bD_ ?_|refine bA_ ?_ _)); exact BK136.out)) : gb136 ≠ gb156)); have n16_:=K_ ((by rw [hg]; exact Nat.ne_of_gt (blk_lt (g := gb136) (o := .cells #[.int .u64 t142, .int .i64 t143] 56 (0, 0)) (by (with_reducible repeat (first|refine bN_ ?_ _|refine bD_ ?_|refine bA_ ?_ _)); exact BK136.out)) : gb156 ≠ gb136)); have n17_:=K_ ((by rw [hg]; exact Nat.ne_of_lt (blk_lt (g := gb144) (o := .cells #[.int .u64 t138, .int .i64 t139] 58 (0, 0)) (by (with_reducible repeat (first|refine bN_ ?_ _|refine bD_ ?_|refine bA_ ?_ _)); exact BK144.out)) : gb144 ≠ gb156)); have n18_:=K_ ((by rw [hg]; exact Nat.ne_of_gt (blk_lt (g := gb144) (o := .cells #[.int .u64 t138, .int .i64 t139] 58 (0, 0)) (by (with_reducible repeat (first|refine bN_ ?_ _|refine bD_ ?_|refine bA_ ?_ _)); exact BK144.out)) : gb156 ≠ gb144)); have n19_:=K_ ((by rw [hg]; exact Nat.ne_of_lt (blk_lt (g := gb145) (o := .cells #[.int .u64 t140, .int .i64 t141] 58 (0, 0)) (by (with_reducible repeat (first|refine bN_ ?_ _|refine bD_ ?_|refine bA_ ?_ _)); exact BK145.out)) : gb145 ≠ gb156)); have n20_:=K_ ((by rw [hg]; exact Nat.ne_of_gt (blk_lt (g := gb145) (o := .cells #[.int .u64 t140, .int .i64 t141] 58 (0, 0)) (by (with_reducible repeat (first|refine bN_ ?_ _|refine bD_ ?_|refine bA_ ?_ _)); exact BK145.out)) : gb156 ≠ gb145)); have n21_:=K_ ((by rw [hg]; exact Nat.ne_of_lt (blk_lt (g := gb146) (o := .cells #[.int .u64 t142, .int .i64 t143] 58 (0, 0)) (by (with_reducible repeat (first|refine bN_ ?_ _|refine bD_ ?_|refine bA_ ?_ _)); exact BK146.out)) : gb146 ≠ gb156)); have n22_:=K_ ((by rw [hg]; exact Nat.ne_of_gt (blk_lt (g := gb146) (o := .cells #[.int .u64 t142, .int .i64 t143] 58 (0, 0)) (by (with_reducible repeat (first|refine bN_ ?_ _|refine bD_ ?_|refine bA_ ?_ _)); exact BK146.out)) : gb156 ≠ gb146)); clear HO153; clear BK134; clear BK135; clear BK136; clear BK144; clear BK145; clear BK146; clear HB; have HO153:=n0_; have BK134:=n1_; have BK135:=n2_; have BK136:=n3_; have BK144:=n4_; have BK145:=n5_; have BK146:=n6_; have HB:=n7_; have BK156:=n8_; have GW156:=n9_; have GE156:=n10_; have NB134_156:=n11_; have NB156_134:=n12_; have NB135_156:=n13_; have NB156_135:=n14_; have NB136_156:=n15_; have NB156_136:=n16_; have NB144_156:=n17_; have NB156_144:=n18_; have NB145_156:=n19_; have NB156_145:=n20_; have NB146_156:=n21_; have NB156_146:=n22_; clear n0_ n1_ n2_ n3_ n4_ n5_ n6_ n7_ n8_ n9_ n10_ n11_ n12_ n13_ n14_ n15_ n16_ n17_ n18_ n19_ n20_ n21_ n22_; clear hb hbox hg; have hnb137:=NB156_134.out; have hnc137:=NB134_156.out; have hnb138:=NB156_135.out; have hnc138:=NB135_156.out; have hnb139:=NB156_136.out; have hnc139:=NB136_156.out; have hnb140:=NB156_144.out; have hnc140:=NB144_156.out; have hnb141:=NB156_145.out; have hnc141:=NB145_156.out; have hnb142:=NB156_146.out; have hnc142:=NB146_156.out; have hcz143_0 : w136.cell? ⟨gb156, 0, none⟩ = some (.int .u64 0) := (blk_cell BK156.out 0).trans rfl; have hcz143_1 : w136.cell? ⟨gb156, 1, none⟩ = some (.int .i64 0) := (blk_cell BK156.out 1).trans rfl; have hfz143_0:=blk_frozen BK156.out 0; have hfz143_1:=blk_frozen BK156.out 1; have hcz144_0 : w136.cell? ⟨gb144, 0, none⟩ = some (.int .u64 t138) := (blk_cell BK144.out 0).trans rfl; have hcz144_1 : w136.cell? ⟨gb144, 1, none⟩ = some (.int .i64 t139) := (blk_cell BK144.out 1).trans rfl; have hfz144_0:=blk_frozen BK144.out 0; have hfz144_1:=blk_frozen BK144.out 1; have hcz145_0 : w136.cell? ⟨gb145, 0, none⟩ = some (.int .u64 t140) := (blk_cell BK145.out 0).trans rfl; have hcz145_1 : w136.cell? ⟨gb145, 1, none⟩ = some (.int .i64 t141) := (blk_cell BK145.out 1).trans rfl; have hfz145_0:=blk_frozen BK145.out 0; have hfz145_1:=blk_frozen BK145.out 1)|(go_at_call 40; (with_reducible refine (ballot_Compare.calls kj9 t154 t155 t138 t139 t163 _ A109.out).mono ?_); rintro e w146 ⟨rfl, hb⟩; have n0_:=K_ (Kd.R_below (by (with_reducible repeat (first|apply Kd.R_alloc|apply Kd.R_drewN|apply Kd.R_drew)); exact (Kd.R_mono (Kd.R_far (p := ⟨gb156, 1, none⟩) (Kd.R_far (p := ⟨gb156, 0, none⟩) (Kd.R_mono HO153.out (fun k_ hk => (⟨hk, hk.2⟩ : _ ∧ k_ ≠ gb156))) (fun _ hk => hk.2) (.int .u64 t154)) (fun _ hk => hk.2) (.int .i64 t155)) (fun _ h_ => h_.1))) hb); have n1_:=K_ (blk_below (g := gb134) (o := .cells #[.int .u64 t138, .int .i64 t139] 56 (0, 0)) (by (with_reducible repeat (first|refine bN_ ?_ _|refine bD_ ?_|refine bA_ ?_ _)); refine blk_far ?_ NB134_156.out _; (with_reducible repeat (first|refine bN_ ?_ _|refine bD_ ?_|refine bA_ ?_ _)); refine blk_far ?_ NB134_156.out _; (with_reducible repeat (first|refine bN_ ?_ _|refine bD_ ?_|refine bA_ ?_ _)); exact BK134.out) hb); have n2_:=K_ (blk_below (g := gb135) (o := .cells #[.int .u64 t140, .int .i64 t141] 56 (0, 0)) (by (with_reducible repeat (first|refine bN_ ?_ _|refine bD_ ?_|refine bA_ ?_ _)); refine blk_far ?_ NB135_156.out _; (with_reducible repeat (first|refine bN_ ?_ _|refine bD_ ?_|refine bA_ ?_ _)); refine blk_far ?_ NB135_156.out _; (with_reducible repeat (first|refine bN_ ?_ _|refine bD_ ?_|refine bA_ ?_ _)); exact BK135.out) hb); have n3_:=K_ (blk_below (g := gb136) (o := .cells #[.int .u64 t142, .int .i64 t143] 56 (0, 0)) (by (with_reducible repeat (first|refine bN_ ?_ _|refine bD_ ?_|refine bA_ ?_ _)); refine blk_far ?_ NB136_156.out _; (with_reducible repeat (first|refine bN_ ?_ _|refine bD_ ?_|refine bA_ ?_ _)); refine blk_far ?_ NB136_156.out _; (with_reducible repeat (first|refine bN_ ?_ _|refine bD_ ?_|refine bA_ ?_ _)); exact BK136.out) hb); have n4_:=K_ (blk_below (g := gb144) (o := .cells #[.int .u64 t138, .int .i64 t139] 58 (0, 0)) (by (with_reducible repeat (first|refine bN_ ?_ _|refine bD_ ?_|refine bA_ ?_ _)); refine blk_far ?_ NB144_156.out _; (with_reducible repeat (first|refine bN_ ?_ _|refine bD_ ?_|refine bA_ ?_ _)); refine blk_far ?_ NB144_156.out _; (with_reducible repeat (first|refine bN_ ?_ _|refine bD_ ?_|refine bA_ ?_ _)); exact BK144.out) hb); have n5_:=K_ (blk_below (g := gb145) (o := .cells #[.int .u64 t140, .int .i64 t141] 58 (0, 0)) (by (with_reducible repeat (first|refine bN_ ?_ _|refine bD_ ?_|refine bA_ ?_ _)); refine blk_far ?_ NB145_156.out _; (with_reducible repeat (first|refine bN_ ?_ _|refine bD_ ?_|refine bA_ ?_ _)); refine blk_far ?_ NB145_156.out _; (with_reducible repeat (first|refine bN_ ?_ _|refine bD_ ?_|refine bA_ ?_ _)); exact BK145.out) hb); have n6_:=K_ (blk_below (g := gb146) (o := .cells #[.int .u64 t142, .int .i64 t143] 58 (0, 0)) (by (with_reducible repeat (first|refine bN_ ?_ _|refine bD_ ?_|refine bA_ ?_ _)); refine blk_far ?_ NB146_156.out _; (with_reducible repeat (first|refine bN_ ?_ _|refine bD_ ?_|refine bA_ ?_ _)); refine blk_far ?_ NB146_156.out _; (with_reducible repeat (first|refine bN_ ?_ _|refine bD_ ?_|refine bA_ ?_ _)); exact BK146.out) hb); have n7_:=K_ (blk_below (g := gb156) (o := .cells #[.int .u64 t154, .int .i64 t155] 58 (0, 0)) (by (with_reducible repeat (first|refine bN_ ?_ _|refine bD_ ?_|refine bA_ ?_ _)); refine blk_put (cs := #[.int .u64 t154, .int .i64 0]) ?_ 1 _ rfl; (with_reducible repeat (first|refine bN_ ?_ _|refine bD_ ?_|refine bA_ ?_ _)); refine blk_put (cs := #[.int .u64 0, .int .i64 0]) ?_ 0 _ rfl; (with_reducible repeat (first|refine bN_ ?_ _|refine bD_ ?_|refine bA_ ?_ _)); exact BK156.out) hb); have n8_:=K_ (below_step (by repeat (first|(with_reducible first|exact HB.out|apply pA_|apply pN_|apply pD_|refine bS_ ?_ GE134.out|refine bS_ ?_ GE135.out|refine bS_ ?_ GE136.out|refine bS_ ?_ GE144.out|refine bS_ ?_ GE145.out|refine bS_ ?_ GE146.out|refine bS_ ?_ GE156.out)|exact HB.out)) hb); clear HO153; clear BK134; clear BK135; clear BK136; clear BK144; clear BK145; clear BK146; clear BK156; clear HB; have HO153:=n0_; have BK134:=n1_; have BK135:=n2_; have BK136:=n3_; have BK144:=n4_; have BK145:=n5_; have BK146:=n6_; have BK156:=n7_; have HB:=n8_; clear n0_ n1_ n2_ n3_ n4_ n5_ n6_ n7_ n8_; (try clear hb); (try clear hb2); (try clear hk); (try clear hi); have hcz147_0 : w146.cell? ⟨gb156, 0, none⟩ = some (.int .u64 t154) := (blk_cell BK156.out 0).trans rfl; have hcz147_1 : w146.cell? ⟨gb156, 1, none⟩ = some (.int .i64 t155) := (blk_cell BK156.out 1).trans rfl; have hfz147_0:=blk_frozen BK156.out 0; have hfz147_1:=blk_frozen BK156.out 1; have hcz148_0 : w146.cell? ⟨gb145, 0, none⟩ = some (.int .u64 t140) := (blk_cell BK145.out 0).trans rfl; have hcz148_1 : w146.cell? ⟨gb145, 1, none⟩ = some (.int .i64 t141) := (blk_cell BK145.out 1).trans rfl; have hfz148_0:=blk_frozen BK145.out 0; have hfz148_1:=blk_frozen BK145.out 1)|(go_at_call 40; (with_reducible refine (ballot_Compare.calls kj9 t154 t155 t140 t141 t164 _ A111.out).mono ?_); rintro e w149 ⟨rfl, hb⟩; have n0_:=K_ (Kd.R_below (by (with_reducible repeat (first|apply Kd.R_alloc|apply Kd.R_drewN|apply Kd.R_drew)); exact HO153.out) hb); have n1_:=K_ (blk_below (g := gb134) (o := .cells #[.int .u64 t138, .int .i64 t139] 56 (0, 0)) (by (with_reducible repeat (first|refine bN_ ?_ _|refine bD_ ?_|refine bA_ ?_ _)); exact BK134.out) hb); have n2_:=K_ (blk_below (g := gb135) (o := .cells #[.int .u64 t140, .int .i64 t141] 56 (0, 0)) (by (with_reducible repeat (first|refine bN_ ?_ _|refine bD_ ?_|refine bA_ ?_ _)); exact BK135.out) hb); have n3_:=K_ (blk_below (g := gb136) (o := .cells #[.int .u64 t142, .int .i64 t143] 56 (0, 0)) (by (with_reducible repeat (first|refine bN_ ?_ _|refine bD_ ?_|refine bA_ ?_ _)); exact BK136.out) hb); have n4_:=K_ (blk_below (g := gb144) (o := .cells #[.int .u64 t138, .int .i64 t139] 58 (0, 0)) (by (with_reducible repeat (first|refine bN_ ?_ _|refine bD_ ?_|refine bA_ ?_ _)); exact BK144.out) hb); have n5_:=K_ (blk_below (g := gb145) (o := .cells #[.int .u64 t140, .int .i64 t141] 58 (0, 0)) (by (with_reducible repeat (first|refine bN_ ?_ _|refine bD_ ?_|refine bA_ ?_ _)); exact BK145.out) hb); have n6_:=K_ (blk_below (g := gb146) (o := .cells #[.int .u64 t142, .int .i64 t143] 58 (0, 0)) (by (with_reducible repeat (first|refine bN_ ?_ _|refine bD_ ?_|refine bA_ ?_ _)); exact BK146.out) hb); have n7_:=K_ (blk_below (g := gb156) (o := .cells #[.int .u64 t154, .int .i64 t155] 58 (0, 0)) (by (with_reducible repeat (first|refine bN_ ?_ _|refine bD_ ?_|refine bA_ ?_ _)); exact BK156.out) hb); have n8_:=K_ (below_step (by repeat (first|(with_reducible first|exact HB.out|apply pA_|apply pN_|apply pD_|refine bS_ ?_ GE134.out|refine bS_ ?_ GE135.out|refine bS_ ?_ GE136.out|refine bS_ ?_ GE144.out|refine bS_ ?_ GE145.out|refine bS_ ?_ GE146.out|refine bS_ ?_ GE156.out)|exact HB.out)) hb); clear HO153; clear BK134; clear BK135; clear BK136; clear BK144; clear BK145; clear BK146; clear BK156; clear HB; have HO153:=n0_; have BK134:=n1_; have BK135:=n2_; have BK136:=n3_; have BK144:=n4_; have BK145:=n5_; have BK146:=n6_; have BK156:=n7_; have HB:=n8_; clear n0_ n1_ n2_ n3_ n4_ n5_ n6_ n7_ n8_; (try clear hb); (try clear hb2); (try clear hk); (try clear hi); have hcz150_0 : w149.cell? ⟨gb156, 0, none⟩ = some (.int .u64 t154) := (blk_cell BK156.out 0).trans rfl; have hcz150_1 : w149.cell? ⟨gb156, 1, none⟩ = some (.int .i64 t155) := (blk_cell BK156.out 1).trans rfl; have hfz150_0:=blk_frozen BK156.out 0; have hfz150_1:=blk_frozen BK156.out 1; have hcz151_0 : w149.cell? ⟨gb146, 0, none⟩ = some (.int .u64 t142) := (blk_cell BK146.out 0).trans rfl; have hcz151_1 : w149.cell? ⟨gb146, 1, none⟩ = some (.int .i64 t143) := (blk_cell BK146.out 1).trans rfl; have hfz151_0:=blk_frozen BK146.out 0; have hfz151_1:=blk_frozen BK146.out 1)|(go_at_call 40; (with_reducible refine (ballot_Compare.calls kj9 t154 t155 t142 t143 t165 _ A113.out).mono ?_); rintro e w152 ⟨rfl, hb⟩; have n0_:=K_ (Kd.R_below (by (with_reducible repeat (first|apply Kd.R_alloc|apply Kd.R_drewN|apply Kd.R_drew)); exact HO153.out) hb); have n1_:=K_ (blk_below (g := gb134) (o := .cells #[.int .u64 t138, .int .i64 t139] 56 (0, 0)) (by (with_reducible repeat (first|refine bN_ ?_ _|refine bD_ ?_|refine bA_ ?_ _)); exact BK134.out) hb); have n2_:=K_ (blk_below (g := gb135) (o := .cells #[.int .u64 t140, .int .i64 t141] 56 (0, 0)) (by (with_reducible repeat (first|refine bN_ ?_ _|refine bD_ ?_|refine bA_ ?_ _)); exact BK135.out) hb); have n3_:=K_ (blk_below (g := gb136) (o := .cells #[.int .u64 t142, .int .i64 t143] 56 (0, 0)) (by (with_reducible repeat (first|refine bN_ ?_ _|refine bD_ ?_|refine bA_ ?_ _)); exact BK136.out) hb); have n4_:=K_ (blk_below (g := gb144) (o := .cells #[.int .u64 t138, .int .i64 t139] 58 (0, 0)) (by (with_reducible repeat (first|refine bN_ ?_ _|refine bD_ ?_|refine bA_ ?_ _)); exact BK144.out) hb); have n5_:=K_ (blk_below (g := gb145) (o := .cells #[.int .u64 t140, .int .i64 t141] 58 (0, 0)) (by (with_reducible repeat (first|refine bN_ ?_ _|refine bD_ ?_|refine bA_ ?_ _)); exact BK145.out) hb); have n6_:=K_ (blk_below (g := gb146) (o := .cells #[.int .u64 t142, .int .i64 t143] 58 (0, 0)) (by (with_reducible repeat (first|refine bN_ ?_ _|refine bD_ ?_|refine bA_ ?_ _)); exact BK146.out) hb); have n7_:=K_ (blk_below (g := gb156) (o := .cells #[.int .u64 t154, .int .i64 t155] 58 (0, 0)) (by (with_reducible repeat (first|refine bN_ ?_ _|refine bD_ ?_|refine bA_ ?_ _)); exact BK156.out) hb); have n8_:=K_ (below_step (by repeat (first|(with_reducible first|exact HB.out|apply pA_|apply pN_|apply pD_|refine bS_ ?_ GE134.out|refine bS_ ?_ GE135.out|refine bS_ ?_ GE136.out|refine bS_ ?_ GE144.out|refine bS_ ?_ GE145.out|refine bS_ ?_ GE146.out|refine bS_ ?_ GE156.out)|exact HB.out)) hb); clear HO153; clear BK134; clear BK135; clear BK136; clear BK144; clear BK145; clear BK146; clear BK156; clear HB; have HO153:=n0_; have BK134:=n1_; have BK135:=n2_; have BK136:=n3_; have BK144:=n4_; have BK145:=n5_; have BK146:=n6_; have BK156:=n7_; have HB:=n8_; clear n0_ n1_ n2_ n3_ n4_ n5_ n6_ n7_ n8_; (try clear hb); (try clear hb2); (try clear hk); (try clear hi))|(go_at_call 43; (refine (ballot_Max.calls kj9 _ _ ([] : List (S58)) t166 t167 _ ?side1 ?side2 A115.out).mono ?_); (case side1 => exact Kd.C_nil _ _); (case side2 => exact Nat.le_refl _); rintro e w153 ⟨rfl, hb⟩; have n0_:=K_ (Kd.R_below (by (with_reducible repeat (first|apply Kd.R_alloc|apply Kd.R_drewN|apply Kd.R_drew)); exact HO153.out) hb); have n1_:=K_ (blk_below (g := gb134) (o := .cells #[.int .u64 t138, .int .i64 t139] 56 (0, 0)) (by (with_reducible repeat (first|refine bN_ ?_ _|refine bD_ ?_|refine bA_ ?_ _)); exact BK134.out) hb); have n2_:=K_ (blk_below (g := gb135) (o := .cells #[.int .u64 t140, .int .i64 t141] 56 (0, 0)) (by (with_reducible repeat (first|refine bN_ ?_ _|refine bD_ ?_|refine bA_ ?_ _)); exact BK135.out) hb); have n3_:=K_ (blk_below (g := gb136) (o := .cells #[.int .u64 t142, .int .i64 t143] 56 (0, 0)) (by (with_reducible repeat (first|refine bN_ ?_ _|refine bD_ ?_|refine bA_ ?_ _)); exact BK136.out) hb); have n4_:=K_ (blk_below (g := gb144) (o := .cells #[.int .u64 t138, .int .i64 t139] 58 (0, 0)) (by (with_reducible repeat (first|refine bN_ ?_ _|refine bD_ ?_|refine bA_ ?_ _)); exact BK144.out) hb); have n5_:=K_ (blk_below (g := gb145) (o := .cells #[.int .u64 t140, .int .i64 t141] 58 (0, 0)) (by (with_reducible repeat (first|refine bN_ ?_ _|refine bD_ ?_|refine bA_ ?_ _)); exact BK145.out) hb); have n6_:=K_ (blk_below (g := gb146) (o := .cells #[.int .u64 t142, .int .i64 t143] 58 (0, 0)) (by (with_reducible repeat (first|refine bN_ ?_ _|refine bD_ ?_|refine bA_ ?_ _)); exact BK146.out) hb); have n7_:=K_ (blk_below (g := gb156) (o := .cells #[.int .u64 t154, .int .i64 t155] 58 (0, 0)) (by (with_reducible repeat (first|refine bN_ ?_ _|refine bD_ ?_|refine bA_ ?_ _)); exact BK156.out) hb); have n8_:=K_ (below_step (by repeat (first|(with_reducible first|exact HB.out|apply pA_|apply pN_|apply pD_|refine bS_ ?_ GE134.out|refine bS_ ?_ GE135.out|refine bS_ ?_ GE136.out|refine bS_ ?_ GE144.out|refine bS_ ?_ GE145.out|refine bS_ ?_ GE146.out|refine bS_ ?_ GE156.out)|exact HB.out)) hb); clear HO153; clear BK134; clear BK135; clear BK136; clear BK144; clear BK145; clear BK146; clear BK156; clear HB; have HO153:=n0_; have BK134:=n1_; have BK135:=n2_; have BK136:=n3_; have BK144:=n4_; have BK145:=n5_; have BK146:=n6_; have BK156:=n7_; have HB:=n8_; clear n0_ n1_ n2_ n3_ n4_ n5_ n6_ n7_ n8_; (try clear hb); (try clear hb2); (try clear hk); (try clear hi))|(go_at_call 42; (with_reducible refine (ballot_Ballot_None.calls t166 t167 t168 _ A116.out).mono ?_); rintro e w154 ⟨rfl, hb⟩; have n0_:=K_ (Kd.R_below (by (with_reducible repeat (first|apply Kd.R_alloc|apply Kd.R_drewN|apply Kd.R_drew)); exact HO153.out) hb); have n1_:=K_ (blk_below (g := gb134) (o := .cells #[.int .u64 t138, .int .i64 t139] 56 (0, 0)) (by (with_reducible repeat (first|refine bN_ ?_ _|refine bD_ ?_|refine bA_ ?_ _)); exact BK134.out) hb); have n2_:=K_ (blk_below (g := gb135) (o := .cells #[.int .u64 t140, .int .i64 t141] 56 (0, 0)) (by (with_reducible repeat (first|refine bN_ ?_ _|refine bD_ ?_|refine bA_ ?_ _)); exact BK135.out) hb); have n3_:=K_ (blk_below (g := gb136) (o := .cells #[.int .u64 t142, .int .i64 t143] 56 (0, 0)) (by (with_reducible repeat (first|refine bN_ ?_ _|refine bD_ ?_|refine bA_ ?_ _)); exact BK136.out) hb); have n4_:=K_ (blk_below (g := gb144) (o := .cells #[.int .u64 t138, .int .i64 t139] 58 (0, 0)) (by (with_reducible repeat (first|refine bN_ ?_ _|refine bD_ ?_|refine bA_ ?_ _)); exact BK144.out) hb); have n5_:=K_ (blk_below (g := gb145) (o := .cells #[.int .u64 t140, .int .i64 t141] 58 (0, 0)) (by (with_reducible repeat (first|refine bN_ ?_ _|refine bD_ ?_|refine bA_ ?_ _)); exact BK145.out) hb); have n6_:=K_ (blk_below (g := gb146) (o := .cells #[.int .u64 t142, .int .i64 t143] 58 (0, 0)) (by (with_reducible repeat (first|refine bN_ ?_ _|refine bD_ ?_|refine bA_ ?_ _)); exact BK146.out) hb); have n7_:=K_ (blk_below (g := gb156) (o := .cells #[.int .u64 t154, .int .i64 t155] 58 (0, 0)) (by (with_reducible repeat (first|refine bN_ ?_ _|refine bD_ ?_|refine bA_ ?_ _)); exact BK156.out) hb); have n8_:=K_ (below_step (by repeat (first|(with_reducible first|exact HB.out|apply pA_|apply pN_|apply pD_|refine bS_ ?_ GE134.out|refine bS_ ?_ GE135.out|refine bS_ ?_ GE136.out|refine bS_ ?_ GE144.out|refine bS_ ?_ GE145.out|refine bS_ ?_ GE146.out|refine bS_ ?_ GE156.out)|exact HB.out)) hb); clear HO153; clear BK134; clear BK135; clear BK136; clear BK144; clear BK145; clear BK146; clear BK156; clear HB; have HO153:=n0_; have BK134:=n1_; have BK135:=n2_; have BK136:=n3_; have BK144:=n4_; have BK145:=n5_; have BK146:=n6_; have BK156:=n7_; have HB:=n8_; clear n0_ n1_ n2_ n3_ n4_ n5_ n6_ n7_ n8_; (try clear hb); (try clear hb2); (try clear hk); (try clear hi)))
          go_ret
          exact ⟨by first|rfl|(simp [errW_none, errW_some] <;> rfl)|(simp [*, errW_none, errW_some] <;> rfl), by repeat (first|(with_reducible first|exact HB.out|apply pA_|apply pN_|apply pD_|refine bS_ ?_ GE134.out|refine bS_ ?_ GE135.out|refine bS_ ?_ GE136.out|refine bS_ ?_ GE144.out|refine bS_ ?_ GE145.out|refine bS_ ?_ GE146.out|refine bS_ ?_ GE156.out)|exact HB.out)⟩
         ·
          rw [if_neg c114] at H
          have c114b0 : decide (0 ≤ t165) = false := decide_eq_false c114
          clear c114
          obtain rfl := Option.some.inj H
          exact absurd hr_ (by decide)
        ·
         rw [if_neg c112] at H
         have c112b0 : decide (0 ≤ t164) = false := decide_eq_false c112
         clear c112
         obtain rfl := Option.some.inj H
         exact absurd hr_ (by decide)
       ·
        rw [if_neg c110] at H
        have c110b0 : decide (0 ≤ t163) = false := decide_eq_false c110
        clear c110
        obtain rfl := Option.some.inj H
        exact absurd hr_ (by decide)
      ·
       rw [if_neg c108] at H
       have c108b0 : (t154 == t140 && (t155 == t141)) = false := by simpa using c108
       (try (have c108b1 : decide (t154 = t140 && (t155 == t141)) = false := by simpa using c108))
       (try (have c108b2 : (t154 == t140 && (t155 == t141)) = false := by simpa using c108))
       (try (have c108b3 : ¬ (t154 = t140 && (t155 == t141)) := by simpa using c108))
       clear c108
       by_cases c155 : (t154 == t142 && (t155 == t143)) = true
       ·
        rw [if_pos c155] at H
        have c155b0 : (t154 == t142 && (t155 == t143)) = true := c155
        (try (have c155b1 : decide (t154 = t142 && (t155 == t143)) = true := by simpa using c155))
        (try (have c155b2 : (t154 == t142 && (t155 == t143)) = true := by simpa using c155))
        clear c155
        replace H := Option.bind_eq_some_iff.mp H
        obtain ⟨t169, A1560, H⟩ := H
        replace H : (if t169 ≥ 0 then ((ballot_Compare.f kj9 t154 t155 t140 t141).bind fun t170 => (if t170 ≥ 0 then ((ballot_Compare.f kj9 t154 t155 t142 t143).bind fun t171 => (if t171 ≥ 0 then ((ballot_Max.f kj9 ([] : List (S58))).bind fun bt172 => ((ballot_Ballot_None.f bt172.1 bt172.2).bind fun t174 => (some t174))) else (some false))) else (some false))) else (some false)) = some r := H
        have A156:=K_ A1560
        clear A1560
        by_cases c157 : t169 ≥ 0
        ·
         rw [if_pos c157] at H
         have c157b0 : decide (0 ≤ t169) = true := decide_eq_true c157
         clear c157
         replace H := Option.bind_eq_some_iff.mp H
         obtain ⟨t170, A1580, H⟩ := H
         replace H : (if t170 ≥ 0 then ((ballot_Compare.f kj9 t154 t155 t142 t143).bind fun t171 => (if t171 ≥ 0 then ((ballot_Max.f kj9 ([] : List (S58))).bind fun bt172 => ((ballot_Ballot_None.f bt172.1 bt172.2).bind fun t174 => (some t174))) else (some false))) else (some false)) = some r := H
         have A158:=K_ A1580
         clear A1580
         by_cases c159 : t170 ≥ 0
         ·
          rw [if_pos c159] at H
          have c159b0 : decide (0 ≤ t170) = true := decide_eq_true c159
          clear c159
          replace H := Option.bind_eq_some_iff.mp H
          obtain ⟨t171, A1600, H⟩ := H
          replace H : (if t171 ≥ 0 then ((ballot_Max.f kj9 ([] : List (S58))).bind fun bt172 => ((ballot_Ballot_None.f bt172.1 bt172.2).bind fun t174 => (some t174))) else (some false)) = some r := H
          have A160:=K_ A1600
          clear A1600
          by_cases c161 : t171 ≥ 0
          ·
           rw [if_pos c161] at H
           have c161b0 : decide (0 ≤ t171) = true := decide_eq_true c161
           clear c161
           replace H := Option.bind_eq_some_iff.mp H
           obtain ⟨⟨t172, t173⟩, A1620, H⟩ := H
           replace H : ((ballot_Ballot_None.f t172 t173).bind fun t174 => (some t174)) = some r := H
           have A162:=K_ A1620
           clear A1620
           replace H := Option.bind_eq_some_iff.mp H
           obtain ⟨t174, A1630, H⟩ := H
           replace H : (some t174) = some r := H
           have A163:=K_ A1630
           clear A1630
           obtain rfl := Option.some.inj H
           clear hr_
           have hnb164:=NB144_134.out
           have hnc164:=NB134_144.out
           have hnb165:=NB144_135.out
           have hnc165:=NB135_144.out
           have hnb166:=NB144_136.out
           have hnc166:=NB136_144.out
           have hnb167:=NB144_145.out
           have hnc167:=NB145_144.out
           have hnb168:=NB144_146.out
           have hnc168:=NB146_144.out
           have hcz169_0 : wc.cell? ⟨gb144, 0, none⟩ = some (.int .u64 t138) := (blk_cell BK144.out 0).trans rfl
           have hcz169_1 : wc.cell? ⟨gb144, 1, none⟩ = some (.int .i64 t139) := (blk_cell BK144.out 1).trans rfl
           have hfz169_0:=blk_frozen BK144.out 0
           have hfz169_1:=blk_frozen BK144.out 1
           have hnb170:=NB145_134.out
           have hnc170:=NB134_145.out
           have hnb171:=NB145_135.out
           have hnc171:=NB135_145.out
           have hnb172:=NB145_136.out
           have hnc172:=NB136_145.out
           have hnb173:=NB145_146.out
           have hnc173:=NB146_145.out
           have hcz174_0 : wc.cell? ⟨gb145, 0, none⟩ = some (.int .u64 t140) := (blk_cell BK145.out 0).trans rfl
           have hcz174_1 : wc.cell? ⟨gb145, 1, none⟩ = some (.int .i64 t141) := (blk_cell BK145.out 1).trans rfl
           have hfz174_0:=blk_frozen BK145.out 0
           have hfz174_1:=blk_frozen BK145.out 1
           have hnb175:=NB146_134.out
           have hnc175:=NB134_146.out
           have hnb176:=NB146_135.out
           have hnc176:=NB135_146.out
           have hnb177:=NB146_136.out
           have hnc177:=NB136_146.out
           have hcz178_0 : wc.cell? ⟨gb146, 0, none⟩ = some (.int .u64 t142) := (blk_cell BK146.out 0).trans rfl
           have hcz178_1 : wc.cell? ⟨gb146, 1, none⟩ = some (.int .i64 t143) := (blk_cell BK146.out 1).trans rfl
           have hfz178_0:=blk_frozen BK146.out 0
           have hfz178_1:=blk_frozen BK146.out 1
           go_wp2_with (first|((with_reducible refine gate_dst (N := 59) rfl ?_); refine Kd.R_lit k58 _ 58 ?hg (N := 59) ?hd (xs := ([(⟨t138, t139⟩ : S58), (⟨t140, t141⟩ : S58), (⟨t142, t143⟩ : S58)] : List (S58))) (inner := [.int .u64 t138, .int .i64 t139, .int .u64 t140, .int .i64 t141, .int .u64 t142, .int .i64 t143]) (ok := fun _ => True) (okp := fun _ => True) ?hr ?hp (fun _ hk => hk) trivial (Below.refl _ _) (Nat.le_refl _) (by simp) ?_; (case hd => rfl); (case hg => rfl); (case hr => first|(go_simp; done)|(go_simp; rfl)); (case hp => exact (Reps.c2 (show Kd.M k58 _ _ _ (⟨t138, t139⟩ : S58) [.int .u64 t138, .int .i64 t139] from (k58_mkM _ _ _ (⟨t138, t139⟩ : S58) )) (Reps.c2 (show Kd.M k58 _ _ _ (⟨t140, t141⟩ : S58) [.int .u64 t140, .int .i64 t141] from (k58_mkM _ _ _ (⟨t140, t141⟩ : S58) )) (Reps.c2 (show Kd.M k58 _ _ _ (⟨t142, t143⟩ : S58) [.int .u64 t142, .int .i64 t143] from (k58_mkM _ _ _ (⟨t142, t143⟩ : S58) )) (Reps.none _ _))))); intro v152 w179 ho180 hb hg_ hnew_; clear hg_ hnew_; (first|rw [← Ny151.out] at ho180|(simp only [Int.reduceToNat] at ho180; rw [← Ny151.out] at ho180)); have n0_:=K_ (Kd.R_lower (Kd.R_newB (Kd.R_newB (Kd.R_newB ho180 (g := gb144) (o := .cells #[.int .u64 t138, .int .i64 t139] 58 (0, 0)) (by (with_reducible repeat (first|refine bN_ ?_ _|refine bD_ ?_|refine bA_ ?_ _)); exact BK144.out)) (g := gb145) (o := .cells #[.int .u64 t140, .int .i64 t141] 58 (0, 0)) (by (with_reducible repeat (first|refine bN_ ?_ _|refine bD_ ?_|refine bA_ ?_ _)); exact BK145.out)) (g := gb146) (o := .cells #[.int .u64 t142, .int .i64 t143] 58 (0, 0)) (by (with_reducible repeat (first|refine bN_ ?_ _|refine bD_ ?_|refine bA_ ?_ _)); exact BK146.out)) (below_size (by repeat (first|(with_reducible first|exact HB.out|apply pA_|apply pN_|apply pD_|refine bS_ ?_ GE134.out|refine bS_ ?_ GE135.out|refine bS_ ?_ GE136.out|refine bS_ ?_ GE144.out|refine bS_ ?_ GE145.out|refine bS_ ?_ GE146.out)|exact HB.out)))); have n1_:=K_ (blk_below (g := gb134) (o := .cells #[.int .u64 t138, .int .i64 t139] 56 (0, 0)) (by (with_reducible repeat (first|refine bN_ ?_ _|refine bD_ ?_|refine bA_ ?_ _)); exact BK134.out) hb); have n2_:=K_ (blk_below (g := gb135) (o := .cells #[.int .u64 t140, .int .i64 t141] 56 (0, 0)) (by (with_reducible repeat (first|refine bN_ ?_ _|refine bD_ ?_|refine bA_ ?_ _)); exact BK135.out) hb); have n3_:=K_ (blk_below (g := gb136) (o := .cells #[.int .u64 t142, .int .i64 t143] 56 (0, 0)) (by (with_reducible repeat (first|refine bN_ ?_ _|refine bD_ ?_|refine bA_ ?_ _)); exact BK136.out) hb); have n4_:=K_ (blk_below (g := gb144) (o := .cells #[.int .u64 t138, .int .i64 t139] 58 (0, 0)) (by (with_reducible repeat (first|refine bN_ ?_ _|refine bD_ ?_|refine bA_ ?_ _)); exact BK144.out) hb); have n5_:=K_ (blk_below (g := gb145) (o := .cells #[.int .u64 t140, .int .i64 t141] 58 (0, 0)) (by (with_reducible repeat (first|refine bN_ ?_ _|refine bD_ ?_|refine bA_ ?_ _)); exact BK145.out) hb); have n6_:=K_ (blk_below (g := gb146) (o := .cells #[.int .u64 t142, .int .i64 t143] 58 (0, 0)) (by (with_reducible repeat (first|refine bN_ ?_ _|refine bD_ ?_|refine bA_ ?_ _)); exact BK146.out) hb); have n7_:=K_ (below_step (by repeat (first|(with_reducible first|exact HB.out|apply pA_|apply pN_|apply pD_|refine bS_ ?_ GE134.out|refine bS_ ?_ GE135.out|refine bS_ ?_ GE136.out|refine bS_ ?_ GE144.out|refine bS_ ?_ GE145.out|refine bS_ ?_ GE146.out)|exact HB.out)) hb); clear BK134; clear BK135; clear BK136; clear BK144; clear BK145; clear BK146; clear HB; have HO153:=n0_; have BK134:=n1_; have BK135:=n2_; have BK136:=n3_; have BK144:=n4_; have BK145:=n5_; have BK146:=n6_; have HB:=n7_; clear n0_ n1_ n2_ n3_ n4_ n5_ n6_ n7_; clear hb ho180; obtain ⟨Ao181, co181, eo181⟩ := Kd.R_slice HO153.out; subst eo181)|((with_reducible refine gate_callee (f := 43) rfl ?_); refine goesL_ (some 60) rfl rfl Try.func43 (by kernel_rfl) rfl #[.slice Ao181 y151.length co181] rfl (by (try simp only [List.map_toArray, List.map_cons, List.map_nil]); first|done|rfl|(simp only [List.length_drop, List.length_take]; rfl)) ?_; (with_reducible refine (ballot_Max.calls kj9 _ _ y151 t154 t155 _ ?side1 ?side2 A61.out).mono ?_); (case side1 => repeat (first|exact (Kd.R_reads' HO153.out).2.2|(with_reducible refine Kd.C_alloc ?_ _)|(with_reducible refine Kd.C_drewN ?_ _)|(with_reducible refine Kd.C_drew ?_))); (case side2 => exact (Kd.R_reads' HO153.out).2.1); rintro e w182 ⟨rfl, hb⟩; refine ⟨_, rfl, ?_⟩; have n0_:=K_ (Kd.R_below (by (with_reducible repeat (first|apply Kd.R_alloc|apply Kd.R_drewN|apply Kd.R_drew)); exact HO153.out) hb); have n1_:=K_ (blk_below (g := gb134) (o := .cells #[.int .u64 t138, .int .i64 t139] 56 (0, 0)) (by (with_reducible repeat (first|refine bN_ ?_ _|refine bD_ ?_|refine bA_ ?_ _)); exact BK134.out) hb); have n2_:=K_ (blk_below (g := gb135) (o := .cells #[.int .u64 t140, .int .i64 t141] 56 (0, 0)) (by (with_reducible repeat (first|refine bN_ ?_ _|refine bD_ ?_|refine bA_ ?_ _)); exact BK135.out) hb); have n3_:=K_ (blk_below (g := gb136) (o := .cells #[.int .u64 t142, .int .i64 t143] 56 (0, 0)) (by (with_reducible repeat (first|refine bN_ ?_ _|refine bD_ ?_|refine bA_ ?_ _)); exact BK136.out) hb); have n4_:=K_ (blk_below (g := gb144) (o := .cells #[.int .u64 t138, .int .i64 t139] 58 (0, 0)) (by (with_reducible repeat (first|refine bN_ ?_ _|refine bD_ ?_|refine bA_ ?_ _)); exact BK144.out) hb); have n5_:=K_ (blk_below (g := gb145) (o := .cells #[.int .u64 t140, .int .i64 t141] 58 (0, 0)) (by (with_reducible repeat (first|refine bN_ ?_ _|refine bD_ ?_|refine bA_ ?_ _)); exact BK145.out) hb); have n6_:=K_ (blk_below (g := gb146) (o := .cells #[.int .u64 t142, .int .i64 t143] 58 (0, 0)) (by (with_reducible repeat (first|refine bN_ ?_ _|refine bD_ ?_|refine bA_ ?_ _)); exact BK146.out) hb); have n7_:=K_ (below_step (by repeat (first|(with_reducible first|exact HB.out|apply pA_|apply pN_|apply pD_|refine bS_ ?_ GE134.out|refine bS_ ?_ GE135.out|refine bS_ ?_ GE136.out|refine bS_ ?_ GE144.out|refine bS_ ?_ GE145.out|refine bS_ ?_ GE146.out)|exact HB.out)) hb); clear HO153; clear BK134; clear BK135; clear BK136; clear BK144; clear BK145; clear BK146; clear HB; have HO153:=n0_; have BK134:=n1_; have BK135:=n2_; have BK136:=n3_; have BK144:=n4_; have BK145:=n5_; have BK146:=n6_; have HB:=n7_; clear n0_ n1_ n2_ n3_ n4_ n5_ n6_ n7_; (try clear hb); (try clear hb2); (try clear hk); (try clear hi))|((with_reducible refine gate_dst (N := 11) rfl ?_); refine box_event ?hg (N := 11) ?hd (cs := #[.int .u64 0, .int .i64 0]) (t := 58) ?hr ?_; (case hd => rfl); (case hg => rfl); (case hr => first|(go_simp; done)|(go_simp; rfl)); intro gb156 hg w183 hbox hb; have n0_:=K_ (Kd.R_below (Kd.R_elderB (by (with_reducible repeat (first|apply Kd.R_alloc|apply Kd.R_drewN|apply Kd.R_drew)); exact HO153.out) gb156 (Nat.le_of_eq hg.symm)) hb); have n1_:=K_ (blk_below (g := gb134) (o := .cells #[.int .u64 t138, .int .i64 t139] 56 (0, 0)) (by (with_reducible repeat (first|refine bN_ ?_ _|refine bD_ ?_|refine bA_ ?_ _)); exact BK134.out) hb); have n2_:=K_ (blk_below (g := gb135) (o := .cells #[.int .u64 t140, .int .i64 t141] 56 (0, 0)) (by (with_reducible repeat (first|refine bN_ ?_ _|refine bD_ ?_|refine bA_ ?_ _)); exact BK135.out) hb); have n3_:=K_ (blk_below (g := gb136) (o := .cells #[.int .u64 t142, .int .i64 t143] 56 (0, 0)) (by (with_reducible repeat (first|refine bN_ ?_ _|refine bD_ ?_|refine bA_ ?_ _)); exact BK136.out) hb); have n4_:=K_ (blk_below (g := gb144) (o := .cells #[.int .u64 t138, .int .i64 t139] 58 (0, 0)) (by (with_reducible repeat (first|refine bN_ ?_ _|refine bD_ ?_|refine bA_ ?_ _)); exact BK144.out) hb); have n5_:=K_ (blk_below (g := gb145) (o := .cells #[.int .u64 t140, .int .i64 t141] 58 (0, 0)) (by (with_reducible repeat (first|refine bN_ ?_ _|refine bD_ ?_|refine bA_ ?_ _)); exact BK145.out) hb); have n6_:=K_ (blk_below (g := gb146) (o := .cells #[.int .u64 t142, .int .i64 t143] 58 (0, 0)) (by (with_reducible repeat (first|refine bN_ ?_ _|refine bD_ ?_|refine bA_ ?_ _)); exact BK146.out) hb); have n7_:=K_ (below_step (by repeat (first|(with_reducible first|exact HB.out|apply pA_|apply pN_|apply pD_|refine bS_ ?_ GE134.out|refine bS_ ?_ GE135.out|refine bS_ ?_ GE136.out|refine bS_ ?_ GE144.out|refine bS_ ?_ GE145.out|refine bS_ ?_ GE146.out)|exact HB.out)) hb); have n8_:=K_ (hbox); have n9_:=K_ ((by rw [hg]; exact (below_size (by repeat (first|(with_reducible first|exact HB.out|apply pA_|apply pN_|apply pD_|refine bS_ ?_ GE134.out|refine bS_ ?_ GE135.out|refine bS_ ?_ GE136.out|refine bS_ ?_ GE144.out|refine bS_ ?_ GE145.out|refine bS_ ?_ GE146.out)|exact HB.out))) : w.heap.size ≤ gb156)); have n10_:=K_ ((by rw [hg]; exact (below_size (by repeat (first|(with_reducible first|exact HB.out|apply pA_|apply pN_|apply pD_|refine bS_ ?_ GE134.out|refine bS_ ?_ GE135.out|refine bS_ ?_ GE136.out|refine bS_ ?_ GE144.out|refine bS_ ?_ GE145.out|refine bS_ ?_ GE146.out)|exact HB.out))) : w.heap.size ≤ gb156)); have n11_:=K_ ((by rw [hg]; exact Nat.ne_of_lt (blk_lt (g := gb134) (o := .cells #[.int .u64 t138, .int .i64 t139] 56 (0, 0)) (by (with_reducible repeat (first|refine bN_ ?_ _|refine bD_ ?_|refine bA_ ?_ _)); exact BK134.out)) : gb134 ≠ gb156)); have n12_:=K_ ((by rw [hg]; exact Nat.ne_of_gt (blk_lt (g := gb134) (o := .cells #[.int .u64 t138, .int .i64 t139] 56 (0, 0)) (by (with_reducible repeat (first|refine bN_ ?_ _|refine bD_ ?_|refine bA_ ?_ _)); exact BK134.out)) : gb156 ≠ gb134)); have n13_:=K_ ((by rw [hg]; exact Nat.ne_of_lt (blk_lt (g := gb135) (o := .cells #[.int .u64 t140, .int .i64 t141] 56 (0, 0)) (by (with_reducible repeat (first|refine bN_ ?_ _|refine bD_ ?_|refine bA_ ?_ _)); exact BK135.out)) : gb135 ≠ gb156)); have n14_:=K_ ((by rw [hg]; exact Nat.ne_of_gt (blk_lt (g := gb135) (o := .cells #[.int .u64 t140, .int .i64 t141] 56 (0, 0)) (by (with_reducible repeat (first|refine bN_ ?_ _|refine bD_ ?_|refine bA_ ?_ _)); exact BK135.out)) : gb156 ≠ gb135)); have n15_:=K_ ((by rw [hg]; exact Nat.ne_of_lt (blk_lt (g := gb136) (o := .cells #[.int .u64 t142, .int .i64 t143] 56 (0, 0)) (by (with_reducible repeat (first|refine bN_ ?_ _|refine bD_ ?_|refine bA_ ?_ _)); exact BK136.out)) : gb136 ≠ gb156)); have n16_:=K_ ((by rw [hg]; exact Nat.ne_of_gt (blk_lt (g := gb136) (o := .cells #[.int .u64 t142, .int .i64 t143] 56 (0, 0)) (by (with_reducible repeat (first|refine bN_ ?_ _|refine bD_ ?_|refine bA_ ?_ _)); exact BK136.out)) : gb156 ≠ gb136)); have n17_:=K_ ((by rw [hg]; exact Nat.ne_of_lt (blk_lt (g := gb144) (o := .cells #[.int .u64 t138, .int .i64 t139] 58 (0, 0)) (by (with_reducible repeat (first|refine bN_ ?_ _|refine bD_ ?_|refine bA_ ?_ _)); exact BK144.out)) : gb144 ≠ gb156)); have n18_:=K_ ((by rw [hg]; exact Nat.ne_of_gt (blk_lt (g := gb144) (o := .cells #[.int .u64 t138, .int .i64 t139] 58 (0, 0)) (by (with_reducible repeat (first|refine bN_ ?_ _|refine bD_ ?_|refine bA_ ?_ _)); exact BK144.out)) : gb156 ≠ gb144)); have n19_:=K_ ((by rw [hg]; exact Nat.ne_of_lt (blk_lt (g := gb145) (o := .cells #[.int .u64 t140, .int .i64 t141] 58 (0, 0)) (by (with_reducible repeat (first|refine bN_ ?_ _|refine bD_ ?_|refine bA_ ?_ _)); exact BK145.out)) : gb145 ≠ gb156)); have n20_:=K_ ((by rw [hg]; exact Nat.ne_of_gt (blk_lt (g := gb145) (o := .cells #[.int .u64 t140, .int .i64 t141] 58 (0, 0)) (by (with_reducible repeat (first|refine bN_ ?_ _|refine bD_ ?_|refine bA_ ?_ _)); exact BK145.out)) : gb156 ≠ gb145)); have n21_:=K_ ((by rw [hg]; exact Nat.ne_of_lt (blk_lt (g := gb146) (o := .cells #[.int .u64 t142, .int .i64 t143] 58 (0, 0)) (by (with_reducible repeat (first|refine bN_ ?_ _|refine bD_ ?_|refine bA_ ?_ _)); exact BK146.out)) : gb146 ≠ gb156)); have n22_:=K_ ((by rw [hg]; exact Nat.ne_of_gt (blk_lt (g := gb146) (o := .cells #[.int .u64 t142, .int .i64 t143] 58 (0, 0)) (by (with_reducible repeat (first|refine bN_ ?_ _|refine bD_ ?_|refine bA_ ?_ _)); exact BK146.out)) : gb156 ≠ gb146)); clear HO153; clear BK134; clear BK135; clear BK136; clear BK144; clear BK145; clear BK146; clear HB; have HO153:=n0_; have BK134:=n1_; have BK135:=n2_; have BK136:=n3_; have BK144:=n4_; have BK145:=n5_; have BK146:=n6_; have HB:=n7_; have BK156:=n8_; have GW156:=n9_; have GE156:=n10_; have NB134_156:=n11_; have NB156_134:=n12_; have NB135_156:=n13_; have NB156_135:=n14_; have NB136_156:=n15_; have NB156_136:=n16_; have NB144_156:=n17_; have NB156_144:=n18_; have NB145_156:=n19_; have NB156_145:=n20_; have NB146_156:=n21_; have NB156_146:=n22_; clear n0_ n1_ n2_ n3_ n4_ n5_ n6_ n7_ n8_ n9_ n10_ n11_ n12_ n13_ n14_ n15_ n16_ n17_ n18_ n19_ n20_ n21_ n22_; clear hb hbox hg; have hnb184:=NB156_134.out; have hnc184:=NB134_156.out; have hnb185:=NB156_135.out; have hnc185:=NB135_156.out; have hnb186:=NB156_136.out; have hnc186:=NB136_156.out; have hnb187:=NB156_144.out; have hnc187:=NB144_156.out; have hnb188:=NB156_145.out; have hnc188:=NB145_156.out; have hnb189:=NB156_146.out; have hnc189:=NB146_156.out; have hcz190_0 : w183.cell? ⟨gb156, 0, none⟩ = some (.int .u64 0) := (blk_cell BK156.out 0).trans rfl; have hcz190_1 : w183.cell? ⟨gb156, 1, none⟩ = some (.int .i64 0) := (blk_cell BK156.out 1).trans rfl; have hfz190_0:=blk_frozen BK156.out 0; have hfz190_1:=blk_frozen BK156.out 1; have hcz191_0 : w183.cell? ⟨gb144, 0, none⟩ = some (.int .u64 t138) := (blk_cell BK144.out 0).trans rfl; have hcz191_1 : w183.cell? ⟨gb144, 1, none⟩ = some (.int .i64 t139) := (blk_cell BK144.out 1).trans rfl; have hfz191_0:=blk_frozen BK144.out 0; have hfz191_1:=blk_frozen BK144.out 1; have hcz192_0 : w183.cell? ⟨gb145, 0, none⟩ = some (.int .u64 t140) := (blk_cell BK145.out 0).trans rfl; have hcz192_1 : w183.cell? ⟨gb145, 1, none⟩ = some (.int .i64 t141) := (blk_cell BK145.out 1).trans rfl; have hfz192_0:=blk_frozen BK145.out 0; have hfz192_1:=blk_frozen BK145.out 1; have hcz193_0 : w183.cell? ⟨gb146, 0, none⟩ = some (.int .u64 t142) := (blk_cell BK146.out 0).trans rfl; have hcz193_1 : w183.cell? ⟨gb146, 1, none⟩ = some (.int .i64 t143) := (blk_cell BK146.out 1).trans rfl; have hfz193_0:=blk_frozen BK146.out 0; have hfz193_1:=blk_frozen BK146.out 1)|(go_at_call 40; (with_reducible refine (ballot_Compare.calls kj9 t154 t155 t138 t139 t169 _ A156.out).mono ?_); rintro e w194 ⟨rfl, hb⟩; have n0_:=K_ (Kd.R_below (by (with_reducible repeat (first|apply Kd.R_alloc|apply Kd.R_drewN|apply Kd.R_drew)); exact (Kd.R_mono (Kd.R_far (p := ⟨gb156, 1, none⟩) (Kd.R_far (p := ⟨gb156, 0, none⟩) (Kd.R_mono HO153.out (fun k_ hk => (⟨hk, hk.2⟩ : _ ∧ k_ ≠ gb156))) (fun _ hk => hk.2) (.int .u64 t154)) (fun _ hk => hk.2) (.int .i64 t155)) (fun _ h_ => h_.1))) hb); have n1_:=K_ (blk_below (g := gb134) (o := .cells #[.int .u64 t138, .int .i64 t139] 56 (0, 0)) (by (with_reducible repeat (first|refine bN_ ?_ _|refine bD_ ?_|refine bA_ ?_ _)); refine blk_far ?_ NB134_156.out _; (with_reducible repeat (first|refine bN_ ?_ _|refine bD_ ?_|refine bA_ ?_ _)); refine blk_far ?_ NB134_156.out _; (with_reducible repeat (first|refine bN_ ?_ _|refine bD_ ?_|refine bA_ ?_ _)); exact BK134.out) hb); have n2_:=K_ (blk_below (g := gb135) (o := .cells #[.int .u64 t140, .int .i64 t141] 56 (0, 0)) (by (with_reducible repeat (first|refine bN_ ?_ _|refine bD_ ?_|refine bA_ ?_ _)); refine blk_far ?_ NB135_156.out _; (with_reducible repeat (first|refine bN_ ?_ _|refine bD_ ?_|refine bA_ ?_ _)); refine blk_far ?_ NB135_156.out _; (with_reducible repeat (first|refine bN_ ?_ _|refine bD_ ?_|refine bA_ ?_ _)); exact BK135.out) hb); have n3_:=K_ (blk_below (g := gb136) (o := .cells #[.int .u64 t142, .int .i64 t143] 56 (0, 0)) (by (with_reducible repeat (first|refine bN_ ?_ _|refine bD_ ?_|refine bA_ ?_ _)); refine blk_far ?_ NB136_156.out _; (with_reducible repeat (first|refine bN_ ?_ _|refine bD_ ?_|refine bA_ ?_ _)); refine blk_far ?_ NB136_156.out _; (with_reducible repeat (first|refine bN_ ?_ _|refine bD_ ?_|refine bA_ ?_ _)); exact BK136.out) hb); have n4_:=K_ (blk_below (g := gb144) (o := .cells #[.int .u64 t138, .int .i64 t139] 58 (0, 0)) (by (with_reducible repeat (first|refine bN_ ?_ _|refine bD_ ?_|refine bA_ ?_ _)); refine blk_far ?_ NB144_156.out _; (with_reducible repeat (first|refine bN_ ?_ _|refine bD_ ?_|refine bA_ ?_ _)); refine blk_far ?_ NB144_156.out _; (with_reducible repeat (first|refine bN_ ?_ _|refine bD_ ?_|refine bA_ ?_ _)); exact BK144.out) hb); have n5_:=K_ (blk_below (g := gb145) (o := .cells #[.int .u64 t140, .int .i64 t141] 58 (0, 0)) (by (with_reducible repeat (first|refine bN_ ?_ _|refine bD_ ?_|refine bA_ ?_ _)); refine blk_far ?_ NB145_156.out _; (with_reducible repeat (first|refine bN_ ?_ _|refine bD_ ?_|refine bA_ ?_ _)); refine blk_far ?_ NB145_156.out _; (with_reducible repeat (first|refine bN_ ?_ _|refine bD_ ?_|refine bA_ ?_ _)); exact BK145.out) hb); have n6_:=K_ (blk_below (g := gb146) (o := .cells #[.int .u64 t142, .int .i64 t143] 58 (0, 0)) (by (with_reducible repeat (first|refine bN_ ?_ _|refine bD_ ?_|refine bA_ ?_ _)); refine blk_far ?_ NB146_156.out _; (with_reducible repeat (first|refine bN_ ?_ _|refine bD_ ?_|refine bA_ ?_ _)); refine blk_far ?_ NB146_156.out _; (with_reducible repeat (first|refine bN_ ?_ _|refine bD_ ?_|refine bA_ ?_ _)); exact BK146.out) hb); have n7_:=K_ (blk_below (g := gb156) (o := .cells #[.int .u64 t154, .int .i64 t155] 58 (0, 0)) (by (with_reducible repeat (first|refine bN_ ?_ _|refine bD_ ?_|refine bA_ ?_ _)); refine blk_put (cs := #[.int .u64 t154, .int .i64 0]) ?_ 1 _ rfl; (with_reducible repeat (first|refine bN_ ?_ _|refine bD_ ?_|refine bA_ ?_ _)); refine blk_put (cs := #[.int .u64 0, .int .i64 0]) ?_ 0 _ rfl; (with_reducible repeat (first|refine bN_ ?_ _|refine bD_ ?_|refine bA_ ?_ _)); exact BK156.out) hb); have n8_:=K_ (below_step (by repeat (first|(with_reducible first|exact HB.out|apply pA_|apply pN_|apply pD_|refine bS_ ?_ GE134.out|refine bS_ ?_ GE135.out|refine bS_ ?_ GE136.out|refine bS_ ?_ GE144.out|refine bS_ ?_ GE145.out|refine bS_ ?_ GE146.out|refine bS_ ?_ GE156.out)|exact HB.out)) hb); clear HO153; clear BK134; clear BK135; clear BK136; clear BK144; clear BK145; clear BK146; clear BK156; clear HB; have HO153:=n0_; have BK134:=n1_; have BK135:=n2_; have BK136:=n3_; have BK144:=n4_; have BK145:=n5_; have BK146:=n6_; have BK156:=n7_; have HB:=n8_; clear n0_ n1_ n2_ n3_ n4_ n5_ n6_ n7_ n8_; (try clear hb); (try clear hb2); (try clear hk); (try clear hi); have hcz195_0 : w194.cell? ⟨gb156, 0, none⟩ = some (.int .u64 t154) := (blk_cell BK156.out 0).trans rfl; have hcz195_1 : w194.cell? ⟨gb156, 1, none⟩ = some (.int .i64 t155) := (blk_cell BK156.out 1).trans rfl; have hfz195_0:=blk_frozen BK156.out 0; have hfz195_1:=blk_frozen BK156.out 1; have hcz196_0 : w194.cell? ⟨gb145, 0, none⟩ = some (.int .u64 t140) := (blk_cell BK145.out 0).trans rfl; have hcz196_1 : w194.cell? ⟨gb145, 1, none⟩ = some (.int .i64 t141) := (blk_cell BK145.out 1).trans rfl; have hfz196_0:=blk_frozen BK145.out 0; have hfz196_1:=blk_frozen BK145.out 1)|(go_at_call 40; (with_reducible refine (ballot_Compare.calls kj9 t154 t155 t140 t141 t170 _ A158.out).mono ?_); rintro e w197 ⟨rfl, hb⟩; have n0_:=K_ (Kd.R_below (by (with_reducible repeat (first|apply Kd.R_alloc|apply Kd.R_drewN|apply Kd.R_drew)); exact HO153.out) hb); have n1_:=K_ (blk_below (g := gb134) (o := .cells #[.int .u64 t138, .int .i64 t139] 56 (0, 0)) (by (with_reducible repeat (first|refine bN_ ?_ _|refine bD_ ?_|refine bA_ ?_ _)); exact BK134.out) hb); have n2_:=K_ (blk_below (g := gb135) (o := .cells #[.int .u64 t140, .int .i64 t141] 56 (0, 0)) (by (with_reducible repeat (first|refine bN_ ?_ _|refine bD_ ?_|refine bA_ ?_ _)); exact BK135.out) hb); have n3_:=K_ (blk_below (g := gb136) (o := .cells #[.int .u64 t142, .int .i64 t143] 56 (0, 0)) (by (with_reducible repeat (first|refine bN_ ?_ _|refine bD_ ?_|refine bA_ ?_ _)); exact BK136.out) hb); have n4_:=K_ (blk_below (g := gb144) (o := .cells #[.int .u64 t138, .int .i64 t139] 58 (0, 0)) (by (with_reducible repeat (first|refine bN_ ?_ _|refine bD_ ?_|refine bA_ ?_ _)); exact BK144.out) hb); have n5_:=K_ (blk_below (g := gb145) (o := .cells #[.int .u64 t140, .int .i64 t141] 58 (0, 0)) (by (with_reducible repeat (first|refine bN_ ?_ _|refine bD_ ?_|refine bA_ ?_ _)); exact BK145.out) hb); have n6_:=K_ (blk_below (g := gb146) (o := .cells #[.int .u64 t142, .int .i64 t143] 58 (0, 0)) (by (with_reducible repeat (first|refine bN_ ?_ _|refine bD_ ?_|refine bA_ ?_ _)); exact BK146.out) hb); have n7_:=K_ (blk_below (g := gb156) (o := .cells #[.int .u64 t154, .int .i64 t155] 58 (0, 0)) (by (with_reducible repeat (first|refine bN_ ?_ _|refine bD_ ?_|refine bA_ ?_ _)); exact BK156.out) hb); have n8_:=K_ (below_step (by repeat (first|(with_reducible first|exact HB.out|apply pA_|apply pN_|apply pD_|refine bS_ ?_ GE134.out|refine bS_ ?_ GE135.out|refine bS_ ?_ GE136.out|refine bS_ ?_ GE144.out|refine bS_ ?_ GE145.out|refine bS_ ?_ GE146.out|refine bS_ ?_ GE156.out)|exact HB.out)) hb); clear HO153; clear BK134; clear BK135; clear BK136; clear BK144; clear BK145; clear BK146; clear BK156; clear HB; have HO153:=n0_; have BK134:=n1_; have BK135:=n2_; have BK136:=n3_; have BK144:=n4_; have BK145:=n5_; have BK146:=n6_; have BK156:=n7_; have HB:=n8_; clear n0_ n1_ n2_ n3_ n4_ n5_ n6_ n7_ n8_; (try clear hb); (try clear hb2); (try clear hk); (try clear hi); have hcz198_0 : w197.cell? ⟨gb156, 0, none⟩ = some (.int .u64 t154) := (blk_cell BK156.out 0).trans rfl; have hcz198_1 : w197.cell? ⟨gb156, 1, none⟩ = some (.int .i64 t155) := (blk_cell BK156.out 1).trans rfl; have hfz198_0:=blk_frozen BK156.out 0; have hfz198_1:=blk_frozen BK156.out 1; have hcz199_0 : w197.cell? ⟨gb146, 0, none⟩ = some (.int .u64 t142) := (blk_cell BK146.out 0).trans rfl; have hcz199_1 : w197.cell? ⟨gb146, 1, none⟩ = some (.int .i64 t143) := (blk_cell BK146.out 1).trans rfl; have hfz199_0:=blk_frozen BK146.out 0; have hfz199_1:=blk_frozen BK146.out 1)|(go_at_call 40; (with_reducible refine (ballot_Compare.calls kj9 t154 t155 t142 t143 t171 _ A160.out).mono ?_); rintro e w200 ⟨rfl, hb⟩; have n0_:=K_ (Kd.R_below (by (with_reducible repeat (first|apply Kd.R_alloc|apply Kd.R_drewN|apply Kd.R_drew)); exact HO153.out) hb); have n1_:=K_ (blk_below (g := gb134) (o := .cells #[.int .u64 t138, .int .i64 t139] 56 (0, 0)) (by (with_reducible repeat (first|refine bN_ ?_ _|refine bD_ ?_|refine bA_ ?_ _)); exact BK134.out) hb); have n2_:=K_ (blk_below (g := gb135) (o := .cells #[.int .u64 t140, .int .i64 t141] 56 (0, 0)) (by (with_reducible repeat (first|refine bN_ ?_ _|refine bD_ ?_|refine bA_ ?_ _)); exact BK135.out) hb); have n3_:=K_ (blk_below (g := gb136) (o := .cells #[.int .u64 t142, .int .i64 t143] 56 (0, 0)) (by (with_reducible repeat (first|refine bN_ ?_ _|refine bD_ ?_|refine bA_ ?_ _)); exact BK136.out) hb); have n4_:=K_ (blk_below (g := gb144) (o := .cells #[.int .u64 t138, .int .i64 t139] 58 (0, 0)) (by (with_reducible repeat (first|refine bN_ ?_ _|refine bD_ ?_|refine bA_ ?_ _)); exact BK144.out) hb); have n5_:=K_ (blk_below (g := gb145) (o := .cells #[.int .u64 t140, .int .i64 t141] 58 (0, 0)) (by (with_reducible repeat (first|refine bN_ ?_ _|refine bD_ ?_|refine bA_ ?_ _)); exact BK145.out) hb); have n6_:=K_ (blk_below (g := gb146) (o := .cells #[.int .u64 t142, .int .i64 t143] 58 (0, 0)) (by (with_reducible repeat (first|refine bN_ ?_ _|refine bD_ ?_|refine bA_ ?_ _)); exact BK146.out) hb); have n7_:=K_ (blk_below (g := gb156) (o := .cells #[.int .u64 t154, .int .i64 t155] 58 (0, 0)) (by (with_reducible repeat (first|refine bN_ ?_ _|refine bD_ ?_|refine bA_ ?_ _)); exact BK156.out) hb); have n8_:=K_ (below_step (by repeat (first|(with_reducible first|exact HB.out|apply pA_|apply pN_|apply pD_|refine bS_ ?_ GE134.out|refine bS_ ?_ GE135.out|refine bS_ ?_ GE136.out|refine bS_ ?_ GE144.out|refine bS_ ?_ GE145.out|refine bS_ ?_ GE146.out|refine bS_ ?_ GE156.out)|exact HB.out)) hb); clear HO153; clear BK134; clear BK135; clear BK136; clear BK144; clear BK145; clear BK146; clear BK156; clear HB; have HO153:=n0_; have BK134:=n1_; have BK135:=n2_; have BK136:=n3_; have BK144:=n4_; have BK145:=n5_; have BK146:=n6_; have BK156:=n7_; have HB:=n8_; clear n0_ n1_ n2_ n3_ n4_ n5_ n6_ n7_ n8_; (try clear hb); (try clear hb2); (try clear hk); (try clear hi))|(go_at_call 43; (refine (ballot_Max.calls kj9 _ _ ([] : List (S58)) t172 t173 _ ?side1 ?side2 A162.out).mono ?_); (case side1 => exact Kd.C_nil _ _); (case side2 => exact Nat.le_refl _); rintro e w201 ⟨rfl, hb⟩; have n0_:=K_ (Kd.R_below (by (with_reducible repeat (first|apply Kd.R_alloc|apply Kd.R_drewN|apply Kd.R_drew)); exact HO153.out) hb); have n1_:=K_ (blk_below (g := gb134) (o := .cells #[.int .u64 t138, .int .i64 t139] 56 (0, 0)) (by (with_reducible repeat (first|refine bN_ ?_ _|refine bD_ ?_|refine bA_ ?_ _)); exact BK134.out) hb); have n2_:=K_ (blk_below (g := gb135) (o := .cells #[.int .u64 t140, .int .i64 t141] 56 (0, 0)) (by (with_reducible repeat (first|refine bN_ ?_ _|refine bD_ ?_|refine bA_ ?_ _)); exact BK135.out) hb); have n3_:=K_ (blk_below (g := gb136) (o := .cells #[.int .u64 t142, .int .i64 t143] 56 (0, 0)) (by (with_reducible repeat (first|refine bN_ ?_ _|refine bD_ ?_|refine bA_ ?_ _)); exact BK136.out) hb); have n4_:=K_ (blk_below (g := gb144) (o := .cells #[.int .u64 t138, .int .i64 t139] 58 (0, 0)) (by (with_reducible repeat (first|refine bN_ ?_ _|refine bD_ ?_|refine bA_ ?_ _)); exact BK144.out) hb); have n5_:=K_ (blk_below (g := gb145) (o := .cells #[.int .u64 t140, .int .i64 t141] 58 (0, 0)) (by (with_reducible repeat (first|refine bN_ ?_ _|refine bD_ ?_|refine bA_ ?_ _)); exact BK145.out) hb); have n6_:=K_ (blk_below (g := gb146) (o := .cells #[.int .u64 t142, .int .i64 t143] 58 (0, 0)) (by (with_reducible repeat (first|refine bN_ ?_ _|refine bD_ ?_|refine bA_ ?_ _)); exact BK146.out) hb); have n7_:=K_ (blk_below (g := gb156) (o := .cells #[.int .u64 t154, .int .i64 t155] 58 (0, 0)) (by (with_reducible repeat (first|refine bN_ ?_ _|refine bD_ ?_|refine bA_ ?_ _)); exact BK156.out) hb); have n8_:=K_ (below_step (by repeat (first|(with_reducible first|exact HB.out|apply pA_|apply pN_|apply pD_|refine bS_ ?_ GE134.out|refine bS_ ?_ GE135.out|refine bS_ ?_ GE136.out|refine bS_ ?_ GE144.out|refine bS_ ?_ GE145.out|refine bS_ ?_ GE146.out|refine bS_ ?_ GE156.out)|exact HB.out)) hb); clear HO153; clear BK134; clear BK135; clear BK136; clear BK144; clear BK145; clear BK146; clear BK156; clear HB; have HO153:=n0_; have BK134:=n1_; have BK135:=n2_; have BK136:=n3_; have BK144:=n4_; have BK145:=n5_; have BK146:=n6_; have BK156:=n7_; have HB:=n8_; clear n0_ n1_ n2_ n3_ n4_ n5_ n6_ n7_ n8_; (try clear hb); (try clear hb2); (try clear hk); (try clear hi))|(go_at_call 42; (with_reducible refine (ballot_Ballot_None.calls t172 t173 t174 _ A163.out).mono ?_); rintro e w202 ⟨rfl, hb⟩; have n0_:=K_ (Kd.R_below (by (with_reducible repeat (first|apply Kd.R_alloc|apply Kd.R_drewN|apply Kd.R_drew)); exact HO153.out) hb); have n1_:=K_ (blk_below (g := gb134) (o := .cells #[.int .u64 t138, .int .i64 t139] 56 (0, 0)) (by (with_reducible repeat (first|refine bN_ ?_ _|refine bD_ ?_|refine bA_ ?_ _)); exact BK134.out) hb); have n2_:=K_ (blk_below (g := gb135) (o := .cells #[.int .u64 t140, .int .i64 t141] 56 (0, 0)) (by (with_reducible repeat (first|refine bN_ ?_ _|refine bD_ ?_|refine bA_ ?_ _)); exact BK135.out) hb); have n3_:=K_ (blk_below (g := gb136) (o := .cells #[.int .u64 t142, .int .i64 t143] 56 (0, 0)) (by (with_reducible repeat (first|refine bN_ ?_ _|refine bD_ ?_|refine bA_ ?_ _)); exact BK136.out) hb); have n4_:=K_ (blk_below (g := gb144) (o := .cells #[.int .u64 t138, .int .i64 t139] 58 (0, 0)) (by (with_reducible repeat (first|refine bN_ ?_ _|refine bD_ ?_|refine bA_ ?_ _)); exact BK144.out) hb); have n5_:=K_ (blk_below (g := gb145) (o := .cells #[.int .u64 t140, .int .i64 t141] 58 (0, 0)) (by (with_reducible repeat (first|refine bN_ ?_ _|refine bD_ ?_|refine bA_ ?_ _)); exact BK145.out) hb); have n6_:=K_ (blk_below (g := gb146) (o := .cells #[.int .u64 t142, .int .i64 t143] 58 (0, 0)) (by (with_reducible repeat (first|refine bN_ ?_ _|refine bD_ ?_|refine bA_ ?_ _)); exact BK146.out) hb); have n7_:=K_ (blk_below (g := gb156) (o := .cells #[.int .u64 t154, .int .i64 t155] 58 (0, 0)) (by (with_reducible repeat (first|refine bN_ ?_ _|refine bD_ ?_|refine bA_ ?_ _)); exact BK156.out) hb); have n8_:=K_ (below_step (by repeat (first|(with_reducible first|exact HB.out|apply pA_|apply pN_|apply pD_|refine bS_ ?_ GE134.out|refine bS_ ?_ GE135.out|refine bS_ ?_ GE136.out|refine bS_ ?_ GE144.out|refine bS_ ?_ GE145.out|refine bS_ ?_ GE146.out|refine bS_ ?_ GE156.out)|exact HB.out)) hb); clear HO153; clear BK134; clear BK135; clear BK136; clear BK144; clear BK145; clear BK146; clear BK156; clear HB; have HO153:=n0_; have BK134:=n1_; have BK135:=n2_; have BK136:=n3_; have BK144:=n4_; have BK145:=n5_; have BK146:=n6_; have BK156:=n7_; have HB:=n8_; clear n0_ n1_ n2_ n3_ n4_ n5_ n6_ n7_ n8_; (try clear hb); (try clear hb2); (try clear hk); (try clear hi)))
           go_ret
           exact ⟨by first|rfl|(simp [errW_none, errW_some] <;> rfl)|(simp [*, errW_none, errW_some] <;> rfl), by repeat (first|(with_reducible first|exact HB.out|apply pA_|apply pN_|apply pD_|refine bS_ ?_ GE134.out|refine bS_ ?_ GE135.out|refine bS_ ?_ GE136.out|refine bS_ ?_ GE144.out|refine bS_ ?_ GE145.out|refine bS_ ?_ GE146.out|refine bS_ ?_ GE156.out)|exact HB.out)⟩
          ·
           rw [if_neg c161] at H
           have c161b0 : decide (0 ≤ t171) = false := decide_eq_false c161
           clear c161
           obtain rfl := Option.some.inj H
           exact absurd hr_ (by decide)
         ·
          rw [if_neg c159] at H
          have c159b0 : decide (0 ≤ t170) = false := decide_eq_false c159
          clear c159
          obtain rfl := Option.some.inj H
          exact absurd hr_ (by decide)
        ·
         rw [if_neg c157] at H
         have c157b0 : decide (0 ≤ t169) = false := decide_eq_false c157
         clear c157
         obtain rfl := Option.some.inj H
         exact absurd hr_ (by decide)
       ·
        rw [if_neg c155] at H
        have c155b0 : (t154 == t142 && (t155 == t143)) = false := by simpa using c155
        (try (have c155b1 : decide (t154 = t142 && (t155 == t143)) = false := by simpa using c155))
        (try (have c155b2 : (t154 == t142 && (t155 == t143)) = false := by simpa using c155))
        (try (have c155b3 : ¬ (t154 = t142 && (t155 == t143)) := by simpa using c155))
        clear c155
        obtain rfl := Option.some.inj H
        exact absurd hr_ (by decide)
 ·
  replace c5 := Bool.eq_false_iff.mpr c5
  subst c5
  have H1 : (some false) = some r := by rw [if_neg (show ¬ (false = true) by decide)] at H; exact H
  clear H
  have H:=H1
  clear H1
  obtain rfl := Option.some.inj H
  exact absurd hr_ (by decide)

end Go.Proofs.Ytllagimocmdldaa.PBallotOrder
