import Derived.Test.YtllagimocmdldaaS3
set_option linter.unusedVariables false
set_option linter.unusedSimpArgs false
set_option maxRecDepth 100000
set_option maxHeartbeats 4000000
namespace Go.Proofs.YtllagimocmdldaaI
open Go Go.Proofs.YtllagimocmdldaaM
attribute [local go_sem] aop ev awanted abin aun aint aeqn aeqc aeqs apart abounds abnd amaxi amaxiGo AV.cells AV.scalar gd_zero gd_succ List.all_cons List.all_nil Bool.and_self Bool.and_true Bool.true_and List.length_cons List.length_nil Option.map_some Option.some.injEq cell_same cell_ne cell_ne' cellsAt_same cellsAt_ne cellsAt_ne' put_same put_of set_same set_ne set_ne' List.getElem?_cons_zero List.getElem?_cons_succ if_true if_false and_self and_true true_and ne_eq not_true_eq_false not_false_eq_true decide_true decide_false Bool.false_eq_true Bool.true_eq_false beq_self_eq_true bne_self_eq_false beq_true beq_false Bool.not_true Bool.not_false List.map_cons List.map_nil putL List.set_cons_zero List.set_cons_succ afill Nat.zero_le Nat.le_refl Nat.zero_add Nat.add_zero List.drop_zero List.drop_succ_cons List.take_zero List.take_succ_cons Bool.not_eq_true Bool.not_eq_false decide_eq_true_eq decide_eq_false_iff_not Int.toNat_zero Nat.sub_zero Int.toNat_natCast Bool.bne_true Bool.bne_false AH.cell AH.cellsAt AH.put Nat.mul_one Nat.one_mul Int.natCast_nonneg List.length_set
def t0 : Nat → Nat → Int := fun _ _ => 0
def t1 : Nat → Nat → Int := tch t0 1 5
def t2 : Nat → Nat → Int := tch t1 1 9
theorem t0_lo : ∀ r, r < 2 → 0 ≤ t0 r 64 ∧ t0 r 64 < 9223372036854775807 := by decide +kernel
theorem t0_bd : ∀ r j, r < 2 → j < 65 → -4611686018427387904 ≤ t0 r j ∧ t0 r j ≤ 4611686018427387903 := fun r j hr hj => (show ∀ r, r < 2 → ∀ j, j < 65 → -4611686018427387904 ≤ t0 r j ∧ t0 r j ≤ 4611686018427387903 from by decide +kernel) r hr j hj
theorem t1_lo : ∀ r, r < 2 → 0 ≤ t1 r 64 ∧ t1 r 64 < 9223372036854775807 := by decide +kernel
theorem t1_bd : ∀ r j, r < 2 → j < 65 → -4611686018427387904 ≤ t1 r j ∧ t1 r j ≤ 4611686018427387903 := fun r j hr hj => (show ∀ r, r < 2 → ∀ j, j < 65 → -4611686018427387904 ≤ t1 r j ∧ t1 r j ≤ 4611686018427387903 from by decide +kernel) r hr j hj
theorem t2_lo : ∀ r, r < 2 → 0 ≤ t2 r 64 ∧ t2 r 64 < 9223372036854775807 := by decide +kernel
theorem t2_bd : ∀ r j, r < 2 → j < 65 → -4611686018427387904 ≤ t2 r j ∧ t2 r j ≤ 4611686018427387903 := fun r j hr hj => (show ∀ r, r < 2 → ∀ j, j < 65 → -4611686018427387904 ≤ t2 r j ∧ t2 r j ≤ 4611686018427387903 from by decide +kernel) r hr j hj
theorem aw3 (p q : List Nat) (h : AH) (hB : Brd h p q 2 10 2 t2) : Sp T 33 [.ptr p 0, .int .i64 1, .int .i64 9] h (fun v h' => v = .bool true ∧ h' = h) := by
  refine (sp33 p q 2 10 1 9 2 t2 h hB t2_bd (fun r hr => (t2_lo r hr).1) ⟨by decide, by decide⟩).mono ?_
  rintro v h' ⟨rfl, rfl⟩
  exact ⟨congrArg _ (by decide +kernel), rfl⟩
theorem aw4 (p q : List Nat) (h : AH) (hB : Brd h p q 2 10 2 t2) : Sp T 33 [.ptr p 0, .int .i64 1, .int .i64 15] h (fun v h' => v = .bool false ∧ h' = h) := by
  refine (sp33 p q 2 10 1 15 2 t2 h hB t2_bd (fun r hr => (t2_lo r hr).1) ⟨by decide, by decide⟩).mono ?_
  rintro v h' ⟨rfl, rfl⟩
  exact ⟨congrArg _ (by decide +kernel), rfl⟩
theorem aw5 (p q : List Nat) (h : AH) (hB : Brd h p q 2 10 2 t2) : Sp T 32 [.ptr p 0, .int .i64 1, .int .i64 14] h (fun v h' => v = .int .i64 2 ∧ h' = h) := by
  refine (sp32 p q 2 10 1 14 2 t2 h hB t2_bd (fun r hr => (t2_lo r hr).1) ⟨by decide, by decide⟩).mono ?_
  rintro v h' ⟨rfl, rfl⟩
  exact ⟨congrArg _ (by decide +kernel), rfl⟩
theorem aw1 (p q : List Nat) (h : AH) (hB : Brd h p q 2 10 2 t0) : Sp T 30 [.ptr p 0, .int .i64 1, .int .i64 5] h (fun v h' => v = .bool true ∧ Brd h' p q 2 10 2 t1 ∧ ∃ b, h' = h.set q (some b)) := by
  refine (sp30 p q 2 10 1 5 2 t0 h hB t0_lo).mono ?_
  rintro v h' ⟨rfl, hB', he⟩
  exact ⟨congrArg _ (by decide +kernel), hB', he⟩
theorem aw2 (p q : List Nat) (h : AH) (hB : Brd h p q 2 10 2 t1) : Sp T 30 [.ptr p 0, .int .i64 1, .int .i64 9] h (fun v h' => v = .bool true ∧ Brd h' p q 2 10 2 t2 ∧ ∃ b, h' = h.set q (some b)) := by
  refine (sp30 p q 2 10 1 9 2 t1 h hB t1_lo).mono ?_
  rintro v h' ⟨rfl, hB', he⟩
  exact ⟨congrArg _ (by decide +kernel), hB', he⟩

/-- awake -/
theorem sp25 (h : AH) : Sp T 25 [] h (fun v h' => v = .bool true ∧ Up h h') := by
  refine Sp_of (fn := f25) rfl (show W T b25 [.tup [], .tup [], .tup [], .tup [], .tup [], .tup [], .tup [], .tup [], .tup [], .tup [], .tup [], .tup [], .tup [], .tup [], .tup [], .tup [], .tup [], .tup [], .tup [], .tup [], .tup [], .tup [], .tup [], .tup [], .tup [], .tup [], .tup [], .tup []] _ _ from ?_)
  unfold b25
  repeat' (first
    | (refine wNil ?_)
    | (refine wPure rfl (by (first | (simp only [go_sem, AH.cell, AH.cellsAt, AH.put, Nat.mul_one, Nat.one_mul, Int.toNat_natCast, Int.natCast_nonneg, List.length_set, *]; (first | done | exact rfl)) | rfl)) rfl (by (first | (simp only [go_sem, AH.cell, AH.cellsAt, AH.put, Nat.mul_one, Nat.one_mul, Int.toNat_natCast, Int.natCast_nonneg, List.length_set, *]; (first | done | exact rfl)) | rfl)) ?_; dsimp only [putT, ev, Int.toNat_zero, Nat.sub_zero, Int.toNat_natCast,  gd_zero, gd_succ, Nat.zero_add, Nat.add_zero, Nat.reduceAdd, Nat.reduceMul, List.set_cons_zero, List.set_cons_succ, keep, List.contains_cons, List.contains_nil])
    | (refine wMk rfl (by (first | (simp only [go_sem, AH.cell, AH.cellsAt, AH.put, Nat.mul_one, Nat.one_mul, Int.toNat_natCast, Int.natCast_nonneg, List.length_set, *]; (first | done | exact rfl)) | rfl)) rfl ?_; intro id hid; (try simp only [set_none_iff] at hid); refine ⟨_, (by (first | (simp only [go_sem, AH.cell, AH.cellsAt, AH.put, Nat.mul_one, Nat.one_mul, Int.toNat_natCast, Int.natCast_nonneg, List.length_set, *]; (first | done | exact rfl)) | rfl)), ?_⟩; dsimp only [putT, ev, Int.toNat_zero, Nat.sub_zero, Int.toNat_natCast,  gd_zero, gd_succ, Nat.zero_add, Nat.add_zero, Nat.reduceAdd, Nat.reduceMul, List.set_cons_zero, List.set_cons_succ, keep, List.contains_cons, List.contains_nil])
    | (refine wChk rfl (by (first | (simp only [go_sem, AH.cell, AH.cellsAt, AH.put, Nat.mul_one, Nat.one_mul, Int.toNat_natCast, Int.natCast_nonneg, List.length_set, *]; (first | done | exact rfl)) | rfl)) rfl (by (first | (simp only [go_sem, AH.cell, AH.cellsAt, AH.put, Nat.mul_one, Nat.one_mul, Int.toNat_natCast, Int.natCast_nonneg, List.length_set, *]; (first | done | exact rfl)) | rfl)) rfl ?_) | (refine wChkF rfl (by (first | (simp only [go_sem, AH.cell, AH.cellsAt, AH.put, Nat.mul_one, Nat.one_mul, Int.toNat_natCast, Int.natCast_nonneg, List.length_set, *]; (first | done | exact rfl)) | rfl)) rfl ?_)
    | (refine wSkip rfl (by (first | (simp only [go_sem, AH.cell, AH.cellsAt, AH.put, Nat.mul_one, Nat.one_mul, Int.toNat_natCast, Int.natCast_nonneg, List.length_set, *]; (first | done | exact rfl)) | rfl)) ?_; dsimp only [putT, ev, Int.toNat_zero, Nat.sub_zero, Int.toNat_natCast,  gd_zero, gd_succ, Nat.zero_add, Nat.add_zero, Nat.reduceAdd, Nat.reduceMul, List.set_cons_zero, List.set_cons_succ, keep, List.contains_cons, List.contains_nil])
    | (refine wCall rfl (by (first | (simp only [awanted, gd_zero, gd_succ, beq_self_eq_true, beq_true, beq_false, Bool.not_true, Bool.not_false, *]; done) | rfl)) rfl (Sp.mono (sp28 2 10 2 2 _ (by decide)) ?_); rintro v h1 ⟨p, q, rfl, hB0, hU, hp0, hq0⟩; dsimp only [putT, ev, Int.toNat_zero, Nat.sub_zero, Int.toNat_natCast,  gd_zero, gd_succ, Nat.zero_add, Nat.add_zero, Nat.reduceAdd, Nat.reduceMul, List.set_cons_zero, List.set_cons_succ, keep, List.contains_cons, List.contains_nil])
    | (refine wCall rfl (by (first | (simp only [awanted, gd_zero, gd_succ, beq_self_eq_true, beq_true, beq_false, Bool.not_true, Bool.not_false, *]; done) | rfl)) rfl (Sp.mono (aw1 p q _ hB0) ?_); rintro v h' ⟨rfl, hB1, b1, rfl⟩; dsimp only [putT, ev, Int.toNat_zero, Nat.sub_zero, Int.toNat_natCast,  gd_zero, gd_succ, Nat.zero_add, Nat.add_zero, Nat.reduceAdd, Nat.reduceMul, List.set_cons_zero, List.set_cons_succ, keep, List.contains_cons, List.contains_nil])
    | (refine wCall rfl (by (first | (simp only [awanted, gd_zero, gd_succ, beq_self_eq_true, beq_true, beq_false, Bool.not_true, Bool.not_false, *]; done) | rfl)) rfl (Sp.mono (aw2 p q _ hB1) ?_); rintro v h' ⟨rfl, hB2, b2, rfl⟩; dsimp only [putT, ev, Int.toNat_zero, Nat.sub_zero, Int.toNat_natCast,  gd_zero, gd_succ, Nat.zero_add, Nat.add_zero, Nat.reduceAdd, Nat.reduceMul, List.set_cons_zero, List.set_cons_succ, keep, List.contains_cons, List.contains_nil])
    | (refine wCall rfl (by (first | (simp only [awanted, gd_zero, gd_succ, beq_self_eq_true, beq_true, beq_false, Bool.not_true, Bool.not_false, *]; done) | rfl)) rfl (Sp.mono (aw3 p q _ hB2) ?_); rintro v h' ⟨rfl, rfl⟩; dsimp only [putT, ev, Int.toNat_zero, Nat.sub_zero, Int.toNat_natCast,  gd_zero, gd_succ, Nat.zero_add, Nat.add_zero, Nat.reduceAdd, Nat.reduceMul, List.set_cons_zero, List.set_cons_succ, keep, List.contains_cons, List.contains_nil])
    | (refine wCall rfl (by (first | (simp only [awanted, gd_zero, gd_succ, beq_self_eq_true, beq_true, beq_false, Bool.not_true, Bool.not_false, *]; done) | rfl)) rfl (Sp.mono (aw4 p q _ hB2) ?_); rintro v h' ⟨rfl, rfl⟩; dsimp only [putT, ev, Int.toNat_zero, Nat.sub_zero, Int.toNat_natCast,  gd_zero, gd_succ, Nat.zero_add, Nat.add_zero, Nat.reduceAdd, Nat.reduceMul, List.set_cons_zero, List.set_cons_succ, keep, List.contains_cons, List.contains_nil])
    | (refine wCall rfl (by (first | (simp only [awanted, gd_zero, gd_succ, beq_self_eq_true, beq_true, beq_false, Bool.not_true, Bool.not_false, *]; done) | rfl)) rfl (Sp.mono (aw5 p q _ hB2) ?_); rintro v h' ⟨rfl, rfl⟩; dsimp only [putT, ev, Int.toNat_zero, Nat.sub_zero, Int.toNat_natCast,  gd_zero, gd_succ, Nat.zero_add, Nat.add_zero, Nat.reduceAdd, Nat.reduceMul, List.set_cons_zero, List.set_cons_succ, keep, List.contains_cons, List.contains_nil])
    | (refine cSeq ?_) | (refine cNorm ?_) | (refine cRet ?_) | (refine cExit ?_) | (refine W_reg rfl ?_) | (refine W_block ?_) | (refine W_ret ?_) | (refine W_skip ?_) | (refine W_exit ?_) | (refine bNorm ?_) | (refine bRet ?_) | (refine bExit ?_) | (refine bExitN rfl ?_)
    | (refine cMask' (by simp only [keep, List.contains_cons, List.contains_nil, Nat.reduceBEq, Bool.or_true, Bool.true_or, Bool.or_false, Bool.false_or, if_true, if_false, Bool.false_eq_true, beq_self_eq_true, Nat.zero_add, Nat.reduceAdd, eq_self]; exact rfl) ?_)
    | (refine cT (by (first | (simp only [go_sem, AH.cell, AH.cellsAt, AH.put, Nat.mul_one, Nat.one_mul, Int.toNat_natCast, Int.natCast_nonneg, List.length_set, *]; (first | done | exact rfl)) | rfl)) ?_) | (refine cF (by (first | (simp only [go_sem, AH.cell, AH.cellsAt, AH.put, Nat.mul_one, Nat.one_mul, Int.toNat_natCast, Int.natCast_nonneg, List.length_set, *]; (first | done | exact rfl)) | rfl)) ?_)
    | (refine rRet (by (first | (simp only [go_sem, AH.cell, AH.cellsAt, AH.put, Nat.mul_one, Nat.one_mul, Int.toNat_natCast, Int.natCast_nonneg, List.length_set, *]; (first | done | exact rfl)) | rfl)) ?_) | (refine rNorm (by (first | (simp only [go_sem, AH.cell, AH.cellsAt, AH.put, Nat.mul_one, Nat.one_mul, Int.toNat_natCast, Int.natCast_nonneg, List.length_set, *]; (first | done | exact rfl)) | rfl)) ?_)
    | (refine wSplit _ rfl (by (first | (simp only [go_sem, AH.cell, AH.cellsAt, AH.put, Nat.mul_one, Nat.one_mul, Int.toNat_natCast, Int.natCast_nonneg, List.length_set, *]; (first | done | exact rfl)) | rfl)) ?_ ?_ <;> intro hb <;> (try simp only [beq_false, beq_true, Bool.not_true, Bool.not_false, Bool.not_eq_true', Bool.not_eq_false', decide_eq_false_iff_not, decide_eq_true_eq, bne_iff_ne, beq_iff_eq, Bool.true_eq, Bool.false_eq, Bool.not_not, Bool.and_eq_true, Bool.or_eq_true, Bool.bne_true, Bool.bne_false, bne_eq_false_iff_eq, beq_eq_false_iff_ne, ne_eq] at hb))
    | (refine W_cond _ (by (first | (simp only [go_sem, AH.cell, AH.cellsAt, AH.put, Nat.mul_one, Nat.one_mul, Int.toNat_natCast, Int.natCast_nonneg, List.length_set, *]; (first | done | exact rfl)) | rfl)) ?_ ?_ <;> intro hb <;> (try simp only [beq_false, beq_true, Bool.not_true, Bool.not_false, Bool.not_eq_true', Bool.not_eq_false', decide_eq_false_iff_not, decide_eq_true_eq, bne_iff_ne, beq_iff_eq, Bool.true_eq, Bool.false_eq, Bool.not_not, Bool.and_eq_true, Bool.or_eq_true, Bool.bne_true, Bool.bne_false, bne_eq_false_iff_eq, beq_eq_false_iff_ne, ne_eq] at hb)))
  all_goals exact ⟨rfl, (hU.new hq0).new hq0⟩
end Go.Proofs.YtllagimocmdldaaI
