import Derived.Test.YtgekngfnhhdamaaC17
set_option linter.unusedVariables false
set_option linter.unusedSimpArgs false
set_option maxRecDepth 100000
set_option maxHeartbeats 4000000
namespace Go.Proofs.YtgekngfnhhdamaaI
open Go Go.Proofs.YtgekngfnhhdamaaM
attribute [local go_sem] aop ev awanted abin aun aint aeqn aeqc aeqs apart abounds abnd amaxi amaxiGo AV.cells AV.scalar gd_zero gd_succ List.all_cons List.all_nil Bool.and_self Bool.and_true Bool.true_and List.length_cons List.length_nil Option.map_some Option.some.injEq cell_same cell_ne cell_ne' cellsAt_same cellsAt_ne cellsAt_ne' put_same put_of set_same set_ne set_ne' List.getElem?_cons_zero List.getElem?_cons_succ if_true if_false and_self and_true true_and ne_eq not_true_eq_false not_false_eq_true decide_true decide_false Bool.false_eq_true Bool.true_eq_false beq_self_eq_true bne_self_eq_false beq_true beq_false Bool.not_true Bool.not_false List.map_cons List.map_nil putL List.set_cons_zero List.set_cons_succ afill Nat.zero_le Nat.le_refl Nat.zero_add Nat.add_zero List.drop_zero List.drop_succ_cons List.take_zero List.take_succ_cons Bool.not_eq_true Bool.not_eq_false decide_eq_true_eq decide_eq_false_iff_not Int.toNat_zero Nat.sub_zero Int.toNat_natCast Bool.bne_true Bool.bne_false AH.cell AH.cellsAt AH.put Nat.mul_one Nat.one_mul Int.natCast_nonneg List.length_set aslice azeros bs_append bs_size bs_toList bs_extract bs_get List.cons_append List.nil_append List.append_nil AV.scalar Int.le_refl List.length_append

theorem keep2 {H h' : AH} {i j : List Nat} {b c : Blk} (hU : Up ((H.set i (some b)).set j (some c)) h') (hj : j ≠ i) : ∃ i', i' = i ∧ h' i' = some b ∧ h' j = some c :=
  ⟨i, rfl, hU _ _ (by rw [set_ne (Ne.symm hj), set_same]), hU _ _ set_same⟩
/-- the document's Get -/
theorem sp38 (s : List UInt8) (e : Int) (h : AH) : Sp T 38 [.agg [.str (bs s), .int .i64 e]] h (fun r h' => r = .tup [.agg [.str (bs (gB s e).1), .int .i64 (gB s e).2.1], .agg [.int .u64 (gB s e).2.2.1, .int .i64 (gB s e).2.2.2]] ∧ Up h h') := by
  have hu0 := Up.refl h
  have k18 := fun h => sp18 s e h
  have hE := tU_err (s := s) (e := e)
  unfold gB
  obtain ⟨⟨R, e2, C⟩, hq⟩ : ∃ q, tU s e = q := ⟨_, rfl⟩
  simp only [hq] at k18 hE ⊢
  clear hq
  have k20 := fun h => sp20 R e2 11 h (by decide)
  have hN : (tN R e2 11).2.1 ≠ 0 ∨ (tN R e2 11).2.1 = 0 := by omega
  have hN2 : (tN R e2 11).2.1 ≠ 0 → (tN R e2 11).2.2 = 0 := by
    unfold tN
    split
    · intro _; rfl
    · exact tU_err
  obtain ⟨⟨R2, e3, n⟩, hq⟩ : ∃ q, tN R e2 11 = q := ⟨_, rfl⟩
  simp only [hq] at k20 hN hN2 ⊢
  clear hq
  rcases hN with z | rfl
  · obtain rfl := hN2 z
    have z1 : (e3 == 0) = false := by simpa using z
    have z2 : (e3 != 0) = true := by simpa using z
    rw [if_neg (by omega : ¬ (C = 0 ∧ 0 < 0)), if_neg z]
    refine Sp_of (fn := f38) rfl (show W T b38 [.agg [.str (bs s), .int .i64 e], .tup [], .tup [], .tup [], .tup [], .tup [], .tup [], .tup [], .tup [], .tup [], .tup [], .tup [], .tup [], .tup [], .tup [], .tup [], .tup [], .tup [], .tup [], .tup [], .tup [], .tup [], .tup [], .tup [], .tup [], .tup [], .tup [], .tup [], .tup [], .tup [], .tup [], .tup [], .tup [], .tup [], .tup [], .tup [], .tup [], .tup [], .tup []] _ _ from ?_)
    unfold b38
    repeat' (first
      | (refine wNil ?_)
      | (refine wPure rfl (by (first | (simp only [go_sem, *]; (first | done | exact rfl)) | rfl)) rfl (by (first | (simp only [go_sem, *]; (first | done | exact rfl)) | rfl)) ?_; dsimp only [putT, ev, Int.toNat_zero, Nat.sub_zero, Int.toNat_natCast,  gd_zero, gd_succ, Nat.zero_add, Nat.add_zero, Nat.reduceAdd, Nat.reduceMul, List.set_cons_zero, List.set_cons_succ, keep, List.contains_cons, List.contains_nil])
      | (refine wMk rfl (by (first | (simp only [go_sem, *]; (first | done | exact rfl)) | rfl)) rfl ?_; intro id hid; (try simp only [set_none_iff] at hid); have hz := hid; (repeat (replace hz := hz.2)); (try have := nei g2 hz); (try have := nei g3 hz); (try have := nei g4 hz); (try have := nei g5 hz); (try have := Up.none hu0 hz); (try have := Up.none hu2 hz); (try have := Up.none hu5 hz); refine ⟨_, (by (first | (simp only [go_sem, *]; (first | done | exact rfl)) | rfl)), ?_⟩; dsimp only [putT, ev, Int.toNat_zero, Nat.sub_zero, Int.toNat_natCast,  gd_zero, gd_succ, Nat.zero_add, Nat.add_zero, Nat.reduceAdd, Nat.reduceMul, List.set_cons_zero, List.set_cons_succ, keep, List.contains_cons, List.contains_nil])
      | (refine wChk rfl (by (first | (simp only [go_sem, *]; (first | done | exact rfl)) | rfl)) rfl (by (first | (simp only [go_sem, *]; (first | done | exact rfl)) | rfl)) rfl ?_) | (refine wChkF rfl (by (first | (simp only [go_sem, *]; (first | done | exact rfl)) | rfl)) rfl ?_)
      | (refine wSkip rfl (by (first | (simp only [go_sem, *]; (first | done | exact rfl)) | rfl)) ?_; dsimp only [putT, ev, Int.toNat_zero, Nat.sub_zero, Int.toNat_natCast,  gd_zero, gd_succ, Nat.zero_add, Nat.add_zero, Nat.reduceAdd, Nat.reduceMul, List.set_cons_zero, List.set_cons_succ, keep, List.contains_cons, List.contains_nil])
      | (refine wCall rfl (by (first | (simp only [awanted, gd_zero, gd_succ, beq_self_eq_true, beq_true, beq_false, Bool.not_true, Bool.not_false, *]; done) | rfl)) rfl (Sp.mono (k18 _) ?_); rintro r h2 ⟨rfl, hU2⟩; have hu2 : Up h h2 := Up.trans (by repeat' (first | assumption | exact Up.refl _ | refine Up.new ?_ ?_)) hU2; obtain ⟨r2, e2, g2, g3⟩ := keep2 hU2 hid.1; subst e2; obtain ⟨r3, rfl⟩ : ∃ x, x = id := ⟨_, rfl⟩; dsimp only [putT, ev, Int.toNat_zero, Nat.sub_zero, Int.toNat_natCast,  gd_zero, gd_succ, Nat.zero_add, Nat.add_zero, Nat.reduceAdd, Nat.reduceMul, List.set_cons_zero, List.set_cons_succ, keep, List.contains_cons, List.contains_nil])
      | (refine wCall rfl (by (first | (simp only [awanted, gd_zero, gd_succ, beq_self_eq_true, beq_true, beq_false, Bool.not_true, Bool.not_false, *]; done) | rfl)) rfl (Sp.mono (k20 _) ?_); rintro r h5 ⟨rfl, hU5⟩; have hu5 : Up h h5 := Up.trans (by repeat' (first | assumption | exact Up.refl _ | refine Up.new ?_ ?_)) hU5; have g4 : h5 r2 = some ⟨true, [.str (bs []), .int .i64 0]⟩ := hU5 _ _ (by simp only [go_sem, *]); have g5 : h5 r3 = some ⟨true, [.int .u64 0, .int .i64 0]⟩ := hU5 _ _ (by simp only [go_sem, *]); dsimp only [putT, ev, Int.toNat_zero, Nat.sub_zero, Int.toNat_natCast,  gd_zero, gd_succ, Nat.zero_add, Nat.add_zero, Nat.reduceAdd, Nat.reduceMul, List.set_cons_zero, List.set_cons_succ, keep, List.contains_cons, List.contains_nil])
      | (refine cSeq ?_) | (refine cNorm ?_) | (refine cRet ?_) | (refine cExit ?_) | (refine W_reg rfl ?_) | (refine W_block ?_) | (refine W_ret ?_) | (refine W_skip ?_) | (refine W_exit ?_) | (refine bNorm ?_) | (refine bRet ?_) | (refine bExit ?_) | (refine bExitN rfl ?_)
      | (refine cMask' (by simp only [keep, List.contains_cons, List.contains_nil, Nat.reduceBEq, Bool.or_true, Bool.true_or, Bool.or_false, Bool.false_or, if_true, if_false, Bool.false_eq_true, beq_self_eq_true, Nat.zero_add, Nat.reduceAdd, eq_self]; exact rfl) ?_)
      | (refine cT (by (first | (simp only [go_sem, *]; (first | done | exact rfl)) | rfl)) ?_) | (refine cF (by (first | (simp only [go_sem, *]; (first | done | exact rfl)) | rfl)) ?_)
      | (refine rRet (by (first | (simp only [go_sem, *]; (first | done | exact rfl)) | rfl)) ?_) | (refine rNorm (by (first | (simp only [go_sem, *]; (first | done | exact rfl)) | rfl)) ?_)
      | (refine wSplit _ rfl (by (first | (simp only [go_sem, *]; (first | done | exact rfl)) | rfl)) ?_ ?_ <;> intro hb <;> (try simp only [beq_false, beq_true, Bool.not_true, Bool.not_false, Bool.not_eq_true', Bool.not_eq_false', decide_eq_false_iff_not, decide_eq_true_eq, bne_iff_ne, beq_iff_eq, Bool.true_eq, Bool.false_eq, Bool.not_not, Bool.and_eq_true, Bool.or_eq_true, Bool.bne_true, Bool.bne_false, bne_eq_false_iff_eq, beq_eq_false_iff_ne, ne_eq] at hb))
      | (refine W_cond _ (by (first | (simp only [go_sem, *]; (first | done | exact rfl)) | rfl)) ?_ ?_ <;> intro hb <;> (try simp only [beq_false, beq_true, Bool.not_true, Bool.not_false, Bool.not_eq_true', Bool.not_eq_false', decide_eq_false_iff_not, decide_eq_true_eq, bne_iff_ne, beq_iff_eq, Bool.true_eq, Bool.false_eq, Bool.not_not, Bool.and_eq_true, Bool.or_eq_true, Bool.bne_true, Bool.bne_false, bne_eq_false_iff_eq, beq_eq_false_iff_ne, ne_eq] at hb)))
    all_goals (refine ⟨[.agg [.str (bs R2), .int .i64 e3], .agg [.int .u64 0, .int .i64 0]], (by simp [ares, ares1, f38, ev, AH.cellsAt, AH.cell, set_same, set_ne', *]), rfl, (by repeat' (first | assumption | exact Up.refl _ | refine Up.new ?_ ?_))⟩)
  · by_cases c : C = 0 ∧ 0 < n
    · have c1 : ((C : Int) == 0) = true := by simp [c.1]
      have c2 : (0 : Int) < (n : Int) := by omega
      have f4 : fl 0 4 = 4 := rfl
      rw [if_pos c, f4, if_neg (by decide)]
      refine Sp_of (fn := f38) rfl (show W T b38 [.agg [.str (bs s), .int .i64 e], .tup [], .tup [], .tup [], .tup [], .tup [], .tup [], .tup [], .tup [], .tup [], .tup [], .tup [], .tup [], .tup [], .tup [], .tup [], .tup [], .tup [], .tup [], .tup [], .tup [], .tup [], .tup [], .tup [], .tup [], .tup [], .tup [], .tup [], .tup [], .tup [], .tup [], .tup [], .tup [], .tup [], .tup [], .tup [], .tup [], .tup [], .tup []] _ _ from ?_)
      unfold b38
      repeat' (first
        | (refine wNil ?_)
        | (refine wPure rfl (by (first | (simp only [go_sem, *]; (first | done | exact rfl)) | rfl)) rfl (by (first | (simp only [go_sem, *]; (first | done | exact rfl)) | rfl)) ?_; dsimp only [putT, ev, Int.toNat_zero, Nat.sub_zero, Int.toNat_natCast,  gd_zero, gd_succ, Nat.zero_add, Nat.add_zero, Nat.reduceAdd, Nat.reduceMul, List.set_cons_zero, List.set_cons_succ, keep, List.contains_cons, List.contains_nil])
        | (refine wMk rfl (by (first | (simp only [go_sem, *]; (first | done | exact rfl)) | rfl)) rfl ?_; intro id hid; (try simp only [set_none_iff] at hid); have hz := hid; (repeat (replace hz := hz.2)); (try have := nei g2 hz); (try have := nei g3 hz); (try have := nei g4 hz); (try have := nei g5 hz); (try have := Up.none hu0 hz); (try have := Up.none hu2 hz); (try have := Up.none hu5 hz); refine ⟨_, (by (first | (simp only [go_sem, *]; (first | done | exact rfl)) | rfl)), ?_⟩; dsimp only [putT, ev, Int.toNat_zero, Nat.sub_zero, Int.toNat_natCast,  gd_zero, gd_succ, Nat.zero_add, Nat.add_zero, Nat.reduceAdd, Nat.reduceMul, List.set_cons_zero, List.set_cons_succ, keep, List.contains_cons, List.contains_nil])
        | (refine wChk rfl (by (first | (simp only [go_sem, *]; (first | done | exact rfl)) | rfl)) rfl (by (first | (simp only [go_sem, *]; (first | done | exact rfl)) | rfl)) rfl ?_) | (refine wChkF rfl (by (first | (simp only [go_sem, *]; (first | done | exact rfl)) | rfl)) rfl ?_)
        | (refine wSkip rfl (by (first | (simp only [go_sem, *]; (first | done | exact rfl)) | rfl)) ?_; dsimp only [putT, ev, Int.toNat_zero, Nat.sub_zero, Int.toNat_natCast,  gd_zero, gd_succ, Nat.zero_add, Nat.add_zero, Nat.reduceAdd, Nat.reduceMul, List.set_cons_zero, List.set_cons_succ, keep, List.contains_cons, List.contains_nil])
        | (refine wCall rfl (by (first | (simp only [awanted, gd_zero, gd_succ, beq_self_eq_true, beq_true, beq_false, Bool.not_true, Bool.not_false, *]; done) | rfl)) rfl (Sp.mono (k18 _) ?_); rintro r h2 ⟨rfl, hU2⟩; have hu2 : Up h h2 := Up.trans (by repeat' (first | assumption | exact Up.refl _ | refine Up.new ?_ ?_)) hU2; obtain ⟨r2, e2, g2, g3⟩ := keep2 hU2 hid.1; subst e2; obtain ⟨r3, rfl⟩ : ∃ x, x = id := ⟨_, rfl⟩; dsimp only [putT, ev, Int.toNat_zero, Nat.sub_zero, Int.toNat_natCast,  gd_zero, gd_succ, Nat.zero_add, Nat.add_zero, Nat.reduceAdd, Nat.reduceMul, List.set_cons_zero, List.set_cons_succ, keep, List.contains_cons, List.contains_nil])
        | (refine wCall rfl (by (first | (simp only [awanted, gd_zero, gd_succ, beq_self_eq_true, beq_true, beq_false, Bool.not_true, Bool.not_false, *]; done) | rfl)) rfl (Sp.mono (k20 _) ?_); rintro r h5 ⟨rfl, hU5⟩; have hu5 : Up h h5 := Up.trans (by repeat' (first | assumption | exact Up.refl _ | refine Up.new ?_ ?_)) hU5; have g4 : h5 r2 = some ⟨true, [.str (bs []), .int .i64 0]⟩ := hU5 _ _ (by simp only [go_sem, *]); have g5 : h5 r3 = some ⟨true, [.int .u64 0, .int .i64 0]⟩ := hU5 _ _ (by simp only [go_sem, *]); dsimp only [putT, ev, Int.toNat_zero, Nat.sub_zero, Int.toNat_natCast,  gd_zero, gd_succ, Nat.zero_add, Nat.add_zero, Nat.reduceAdd, Nat.reduceMul, List.set_cons_zero, List.set_cons_succ, keep, List.contains_cons, List.contains_nil])
        | (refine cSeq ?_) | (refine cNorm ?_) | (refine cRet ?_) | (refine cExit ?_) | (refine W_reg rfl ?_) | (refine W_block ?_) | (refine W_ret ?_) | (refine W_skip ?_) | (refine W_exit ?_) | (refine bNorm ?_) | (refine bRet ?_) | (refine bExit ?_) | (refine bExitN rfl ?_)
        | (refine cMask' (by simp only [keep, List.contains_cons, List.contains_nil, Nat.reduceBEq, Bool.or_true, Bool.true_or, Bool.or_false, Bool.false_or, if_true, if_false, Bool.false_eq_true, beq_self_eq_true, Nat.zero_add, Nat.reduceAdd, eq_self]; exact rfl) ?_)
        | (refine cT (by (first | (simp only [go_sem, *]; (first | done | exact rfl)) | rfl)) ?_) | (refine cF (by (first | (simp only [go_sem, *]; (first | done | exact rfl)) | rfl)) ?_)
        | (refine rRet (by (first | (simp only [go_sem, *]; (first | done | exact rfl)) | rfl)) ?_) | (refine rNorm (by (first | (simp only [go_sem, *]; (first | done | exact rfl)) | rfl)) ?_)
        | (refine wSplit _ rfl (by (first | (simp only [go_sem, *]; (first | done | exact rfl)) | rfl)) ?_ ?_ <;> intro hb <;> (try simp only [beq_false, beq_true, Bool.not_true, Bool.not_false, Bool.not_eq_true', Bool.not_eq_false', decide_eq_false_iff_not, decide_eq_true_eq, bne_iff_ne, beq_iff_eq, Bool.true_eq, Bool.false_eq, Bool.not_not, Bool.and_eq_true, Bool.or_eq_true, Bool.bne_true, Bool.bne_false, bne_eq_false_iff_eq, beq_eq_false_iff_ne, ne_eq] at hb))
        | (refine W_cond _ (by (first | (simp only [go_sem, *]; (first | done | exact rfl)) | rfl)) ?_ ?_ <;> intro hb <;> (try simp only [beq_false, beq_true, Bool.not_true, Bool.not_false, Bool.not_eq_true', Bool.not_eq_false', decide_eq_false_iff_not, decide_eq_true_eq, bne_iff_ne, beq_iff_eq, Bool.true_eq, Bool.false_eq, Bool.not_not, Bool.and_eq_true, Bool.or_eq_true, Bool.bne_true, Bool.bne_false, bne_eq_false_iff_eq, beq_eq_false_iff_ne, ne_eq] at hb)))
      all_goals (refine ⟨[.agg [.str (bs R2), .int .i64 4], .agg [.int .u64 0, .int .i64 0]], (by simp [ares, ares1, f38, ev, AH.cellsAt, AH.cell, set_same, set_ne', *]), rfl, (by repeat' (first | assumption | exact Up.refl _ | refine Up.new ?_ ?_))⟩)
    · rw [if_neg c, if_pos rfl]
      rcases (show ((C : Int) == 0) = false ∨ (((C : Int) == 0) = true ∧ ¬ (0 : Int) < (n : Int)) from by
        by_cases c0 : C = 0
        · exact .inr ⟨by simp [c0], by omega⟩
        · exact .inl (by simp; omega)) with c1 | ⟨c1, c2⟩
      all_goals
        refine Sp_of (fn := f38) rfl (show W T b38 [.agg [.str (bs s), .int .i64 e], .tup [], .tup [], .tup [], .tup [], .tup [], .tup [], .tup [], .tup [], .tup [], .tup [], .tup [], .tup [], .tup [], .tup [], .tup [], .tup [], .tup [], .tup [], .tup [], .tup [], .tup [], .tup [], .tup [], .tup [], .tup [], .tup [], .tup [], .tup [], .tup [], .tup [], .tup [], .tup [], .tup [], .tup [], .tup [], .tup [], .tup [], .tup []] _ _ from ?_)
        unfold b38
        repeat' (first
          | (refine wNil ?_)
          | (refine wPure rfl (by (first | (simp only [go_sem, *]; (first | done | exact rfl)) | rfl)) rfl (by (first | (simp only [go_sem, *]; (first | done | exact rfl)) | rfl)) ?_; dsimp only [putT, ev, Int.toNat_zero, Nat.sub_zero, Int.toNat_natCast,  gd_zero, gd_succ, Nat.zero_add, Nat.add_zero, Nat.reduceAdd, Nat.reduceMul, List.set_cons_zero, List.set_cons_succ, keep, List.contains_cons, List.contains_nil])
          | (refine wMk rfl (by (first | (simp only [go_sem, *]; (first | done | exact rfl)) | rfl)) rfl ?_; intro id hid; (try simp only [set_none_iff] at hid); have hz := hid; (repeat (replace hz := hz.2)); (try have := nei g2 hz); (try have := nei g3 hz); (try have := nei g4 hz); (try have := nei g5 hz); (try have := Up.none hu0 hz); (try have := Up.none hu2 hz); (try have := Up.none hu5 hz); refine ⟨_, (by (first | (simp only [go_sem, *]; (first | done | exact rfl)) | rfl)), ?_⟩; dsimp only [putT, ev, Int.toNat_zero, Nat.sub_zero, Int.toNat_natCast,  gd_zero, gd_succ, Nat.zero_add, Nat.add_zero, Nat.reduceAdd, Nat.reduceMul, List.set_cons_zero, List.set_cons_succ, keep, List.contains_cons, List.contains_nil])
          | (refine wChk rfl (by (first | (simp only [go_sem, *]; (first | done | exact rfl)) | rfl)) rfl (by (first | (simp only [go_sem, *]; (first | done | exact rfl)) | rfl)) rfl ?_) | (refine wChkF rfl (by (first | (simp only [go_sem, *]; (first | done | exact rfl)) | rfl)) rfl ?_)
          | (refine wSkip rfl (by (first | (simp only [go_sem, *]; (first | done | exact rfl)) | rfl)) ?_; dsimp only [putT, ev, Int.toNat_zero, Nat.sub_zero, Int.toNat_natCast,  gd_zero, gd_succ, Nat.zero_add, Nat.add_zero, Nat.reduceAdd, Nat.reduceMul, List.set_cons_zero, List.set_cons_succ, keep, List.contains_cons, List.contains_nil])
          | (refine wCall rfl (by (first | (simp only [awanted, gd_zero, gd_succ, beq_self_eq_true, beq_true, beq_false, Bool.not_true, Bool.not_false, *]; done) | rfl)) rfl (Sp.mono (k18 _) ?_); rintro r h2 ⟨rfl, hU2⟩; have hu2 : Up h h2 := Up.trans (by repeat' (first | assumption | exact Up.refl _ | refine Up.new ?_ ?_)) hU2; obtain ⟨r2, e2, g2, g3⟩ := keep2 hU2 hid.1; subst e2; obtain ⟨r3, rfl⟩ : ∃ x, x = id := ⟨_, rfl⟩; dsimp only [putT, ev, Int.toNat_zero, Nat.sub_zero, Int.toNat_natCast,  gd_zero, gd_succ, Nat.zero_add, Nat.add_zero, Nat.reduceAdd, Nat.reduceMul, List.set_cons_zero, List.set_cons_succ, keep, List.contains_cons, List.contains_nil])
          | (refine wCall rfl (by (first | (simp only [awanted, gd_zero, gd_succ, beq_self_eq_true, beq_true, beq_false, Bool.not_true, Bool.not_false, *]; done) | rfl)) rfl (Sp.mono (k20 _) ?_); rintro r h5 ⟨rfl, hU5⟩; have hu5 : Up h h5 := Up.trans (by repeat' (first | assumption | exact Up.refl _ | refine Up.new ?_ ?_)) hU5; have g4 : h5 r2 = some ⟨true, [.str (bs []), .int .i64 0]⟩ := hU5 _ _ (by simp only [go_sem, *]); have g5 : h5 r3 = some ⟨true, [.int .u64 0, .int .i64 0]⟩ := hU5 _ _ (by simp only [go_sem, *]); dsimp only [putT, ev, Int.toNat_zero, Nat.sub_zero, Int.toNat_natCast,  gd_zero, gd_succ, Nat.zero_add, Nat.add_zero, Nat.reduceAdd, Nat.reduceMul, List.set_cons_zero, List.set_cons_succ, keep, List.contains_cons, List.contains_nil])
          | (refine cSeq ?_) | (refine cNorm ?_) | (refine cRet ?_) | (refine cExit ?_) | (refine W_reg rfl ?_) | (refine W_block ?_) | (refine W_ret ?_) | (refine W_skip ?_) | (refine W_exit ?_) | (refine bNorm ?_) | (refine bRet ?_) | (refine bExit ?_) | (refine bExitN rfl ?_)
          | (refine cMask' (by simp only [keep, List.contains_cons, List.contains_nil, Nat.reduceBEq, Bool.or_true, Bool.true_or, Bool.or_false, Bool.false_or, if_true, if_false, Bool.false_eq_true, beq_self_eq_true, Nat.zero_add, Nat.reduceAdd, eq_self]; exact rfl) ?_)
          | (refine cT (by (first | (simp only [go_sem, *]; (first | done | exact rfl)) | rfl)) ?_) | (refine cF (by (first | (simp only [go_sem, *]; (first | done | exact rfl)) | rfl)) ?_)
          | (refine rRet (by (first | (simp only [go_sem, *]; (first | done | exact rfl)) | rfl)) ?_) | (refine rNorm (by (first | (simp only [go_sem, *]; (first | done | exact rfl)) | rfl)) ?_)
          | (refine wSplit _ rfl (by (first | (simp only [go_sem, *]; (first | done | exact rfl)) | rfl)) ?_ ?_ <;> intro hb <;> (try simp only [beq_false, beq_true, Bool.not_true, Bool.not_false, Bool.not_eq_true', Bool.not_eq_false', decide_eq_false_iff_not, decide_eq_true_eq, bne_iff_ne, beq_iff_eq, Bool.true_eq, Bool.false_eq, Bool.not_not, Bool.and_eq_true, Bool.or_eq_true, Bool.bne_true, Bool.bne_false, bne_eq_false_iff_eq, beq_eq_false_iff_ne, ne_eq] at hb))
          | (refine W_cond _ (by (first | (simp only [go_sem, *]; (first | done | exact rfl)) | rfl)) ?_ ?_ <;> intro hb <;> (try simp only [beq_false, beq_true, Bool.not_true, Bool.not_false, Bool.not_eq_true', Bool.not_eq_false', decide_eq_false_iff_not, decide_eq_true_eq, bne_iff_ne, beq_iff_eq, Bool.true_eq, Bool.false_eq, Bool.not_not, Bool.and_eq_true, Bool.or_eq_true, Bool.bne_true, Bool.bne_false, bne_eq_false_iff_eq, beq_eq_false_iff_ne, ne_eq] at hb)))
      all_goals (refine ⟨[.agg [.str (bs R2), .int .i64 0], .agg [.int .u64 C, .int .i64 n]], (by simp [ares, ares1, f38, ev, AH.cellsAt, AH.cell, set_same, set_ne', *]), rfl, (by repeat' (first | assumption | exact Up.refl _ | refine Up.new ?_ ?_))⟩)
theorem gB_enc (C : Nat) (n : Int) (hC : C ≤ 18446744073709551615) (h0 : 0 ≤ n) (h1 : n ≤ 11) (hz : C = 0 → n = 0) : gB (encU C ++ encN n) 0 = ([], 0, C, n.toNat) := by
  unfold gB
  rw [tU_enc C _ hC]
  have e1 : tN (encN n) 0 11 = ([], 0, n.toNat) := by
    have := tN_enc n 11 [] (by omega) (by show n.toNat ≤ 11; omega)
    rwa [List.append_nil] at this
  simp only [e1]
  have : ¬ (C = 0 ∧ 0 < n.toNat) := fun h => by have := hz h.1; omega
  simp only [if_neg this, if_true]
end Go.Proofs.YtgekngfnhhdamaaI
