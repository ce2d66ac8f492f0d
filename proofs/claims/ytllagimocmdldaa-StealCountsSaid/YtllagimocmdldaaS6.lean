import Derived.Test.YtllagimocmdldaaS4
set_option linter.unusedVariables false
set_option linter.unusedSimpArgs false
set_option maxRecDepth 100000
set_option maxHeartbeats 4000000
namespace Go.Proofs.YtllagimocmdldaaI
open Go Go.Proofs.YtllagimocmdldaaM
attribute [local go_sem] aop ev awanted abin aun aint aeqn aeqc aeqs apart abounds abnd amaxi amaxiGo AV.cells AV.scalar gd_zero gd_succ List.all_cons List.all_nil Bool.and_self Bool.and_true Bool.true_and List.length_cons List.length_nil Option.map_some Option.some.injEq cell_same cell_ne cell_ne' cellsAt_same cellsAt_ne cellsAt_ne' put_same put_of set_same set_ne set_ne' List.getElem?_cons_zero List.getElem?_cons_succ if_true if_false and_self and_true true_and ne_eq not_true_eq_false not_false_eq_true decide_true decide_false Bool.false_eq_true Bool.true_eq_false beq_self_eq_true bne_self_eq_false beq_true beq_false Bool.not_true Bool.not_false List.map_cons List.map_nil putL List.set_cons_zero List.set_cons_succ afill Nat.zero_le Nat.le_refl Nat.zero_add Nat.add_zero List.drop_zero List.drop_succ_cons List.take_zero List.take_succ_cons Bool.not_eq_true Bool.not_eq_false decide_eq_true_eq decide_eq_false_iff_not Int.toNat_zero Nat.sub_zero Int.toNat_natCast Bool.bne_true Bool.bne_false AH.cell AH.cellsAt AH.put Nat.mul_one Nat.one_mul Int.natCast_nonneg List.length_set

theorem absAnd (x m : Int) (hm : 0 ≤ m) (hm' : m ≤ 4294967295) : ∃ y : Int, absBits .and .i64 x m = some y ∧ 0 ≤ y ∧ y ≤ m := by
  refine ⟨_, rfl, ?_⟩
  have h1 : (BitVec.ofInt IntKind.i64.bits x &&& BitVec.ofInt IntKind.i64.bits m).toNat ≤ m.toNat := by
    rw [BitVec.toNat_and]
    refine Nat.le_trans Nat.and_le_right ?_
    rw [BitVec.toNat_ofInt]
    have : m % ((2 ^ IntKind.i64.bits : Nat) : Int) = m := Int.emod_eq_of_lt hm (by simp [IntKind.bits]; omega)
    rw [this]; exact Nat.le_refl _
  rw [wrap64 (by omega) (by omega)]
  omega
/-- right -/
theorem sp27 (a b : Int) (h : AH) : Sp T 27 [.int .i64 a, .int .i64 b] h (fun v h' => (∃ L S : Int, v = .agg [.int .i64 L, .int .i64 S] ∧ 1 ≤ L ∧ L ≤ 64 ∧ 1 ≤ S ∧ S ≤ 1024) ∧ Up h h') := by
  obtain ⟨x, hx, x0, x1⟩ := absAnd a 255 (by decide) (by decide)
  obtain ⟨y, hy, y0, y1⟩ := absAnd b 1023 (by decide) (by decide)
  have z0 : 0 ≤ x.tmod 64 := Int.tmod_nonneg _ x0
  have z1 : x.tmod 64 < 64 := Int.tmod_lt_of_pos _ (by decide)
  have w1 : IntKind.i64.wrap (1 + x.tmod 64) = 1 + x.tmod 64 := wrap64 (by omega) (by omega)
  have w2 : IntKind.i64.wrap (1 + y) = 1 + y := wrap64 (by omega) (by omega)
  refine Sp_of (fn := f27) rfl (show W T b27 [.int .i64 a, .int .i64 b, .tup [], .tup [], .tup [], .tup [], .tup [], .tup [], .tup [], .tup [], .tup [], .tup [], .tup []] _ _ from ?_)
  unfold b27
  repeat' (first
    | (refine wNil ?_)
    | (refine wPure rfl (by (first | (simp only [go_sem, ares, f27, *]; (first | done | exact rfl)) | rfl)) rfl (by (first | (simp only [go_sem, ares, f27, *]; (first | done | exact rfl)) | rfl)) ?_; dsimp only [putT, ev, Int.toNat_zero, Nat.sub_zero, Int.toNat_natCast,  gd_zero, gd_succ, Nat.zero_add, Nat.add_zero, Nat.reduceAdd, Nat.reduceMul, List.set_cons_zero, List.set_cons_succ, keep, List.contains_cons, List.contains_nil])
    | (refine wMk rfl (by (first | (simp only [go_sem, ares, f27, *]; (first | done | exact rfl)) | rfl)) rfl ?_; intro id hid; (try simp only [set_none_iff] at hid); refine ⟨_, (by (first | (simp only [go_sem, ares, f27, *]; (first | done | exact rfl)) | rfl)), ?_⟩; dsimp only [putT, ev, Int.toNat_zero, Nat.sub_zero, Int.toNat_natCast,  gd_zero, gd_succ, Nat.zero_add, Nat.add_zero, Nat.reduceAdd, Nat.reduceMul, List.set_cons_zero, List.set_cons_succ, keep, List.contains_cons, List.contains_nil])
    | (refine wChk rfl (by (first | (simp only [go_sem, ares, f27, *]; (first | done | exact rfl)) | rfl)) rfl (by (first | (simp only [go_sem, ares, f27, *]; (first | done | exact rfl)) | rfl)) rfl ?_) | (refine wChkF rfl (by (first | (simp only [go_sem, ares, f27, *]; (first | done | exact rfl)) | rfl)) rfl ?_)
    | (refine wSkip rfl (by (first | (simp only [go_sem, ares, f27, *]; (first | done | exact rfl)) | rfl)) ?_; dsimp only [putT, ev, Int.toNat_zero, Nat.sub_zero, Int.toNat_natCast,  gd_zero, gd_succ, Nat.zero_add, Nat.add_zero, Nat.reduceAdd, Nat.reduceMul, List.set_cons_zero, List.set_cons_succ, keep, List.contains_cons, List.contains_nil])
    | (refine cSeq ?_) | (refine cNorm ?_) | (refine cRet ?_) | (refine cExit ?_) | (refine W_reg rfl ?_) | (refine W_block ?_) | (refine W_ret ?_) | (refine W_skip ?_) | (refine W_exit ?_) | (refine bNorm ?_) | (refine bRet ?_) | (refine bExit ?_) | (refine bExitN rfl ?_)
    | (refine cMask' (by simp only [keep, List.contains_cons, List.contains_nil, Nat.reduceBEq, Bool.or_true, Bool.true_or, Bool.or_false, Bool.false_or, if_true, if_false, Bool.false_eq_true, beq_self_eq_true, Nat.zero_add, Nat.reduceAdd, eq_self]; exact rfl) ?_)
    | (refine cT (by (first | (simp only [go_sem, ares, f27, *]; (first | done | exact rfl)) | rfl)) ?_) | (refine cF (by (first | (simp only [go_sem, ares, f27, *]; (first | done | exact rfl)) | rfl)) ?_)
    | (refine rRet (by (first | (simp only [go_sem, ares, f27, *]; (first | done | exact rfl)) | rfl)) ?_) | (refine rNorm (by (first | (simp only [go_sem, ares, f27, *]; (first | done | exact rfl)) | rfl)) ?_)
    | (refine wSplit _ rfl (by (first | (simp only [go_sem, ares, f27, *]; (first | done | exact rfl)) | rfl)) ?_ ?_ <;> intro hb <;> (try simp only [beq_false, beq_true, Bool.not_true, Bool.not_false, Bool.not_eq_true', Bool.not_eq_false', decide_eq_false_iff_not, decide_eq_true_eq, bne_iff_ne, beq_iff_eq, Bool.true_eq, Bool.false_eq, Bool.not_not, Bool.and_eq_true, Bool.or_eq_true, Bool.bne_true, Bool.bne_false, bne_eq_false_iff_eq, beq_eq_false_iff_ne, ne_eq] at hb))
    | (refine W_cond _ (by (first | (simp only [go_sem, ares, f27, *]; (first | done | exact rfl)) | rfl)) ?_ ?_ <;> intro hb <;> (try simp only [beq_false, beq_true, Bool.not_true, Bool.not_false, Bool.not_eq_true', Bool.not_eq_false', decide_eq_false_iff_not, decide_eq_true_eq, bne_iff_ne, beq_iff_eq, Bool.true_eq, Bool.false_eq, Bool.not_not, Bool.and_eq_true, Bool.or_eq_true, Bool.bne_true, Bool.bne_false, bne_eq_false_iff_eq, beq_eq_false_iff_ne, ne_eq] at hb)))
  refine ⟨[.agg [.int .i64 (1 + x.tmod 64), .int .i64 (1 + y)]], ?_, ⟨_, _, rfl, by omega, by omega, by omega, by omega⟩, ?_⟩
  · simp [ares, ares1, f27, ev, AH.cellsAt, set_same]
  · rw [set_set]; exact Up.new (Up.refl _) (by assumption)
/-- The busiest of the first k regions. -/
def bst (c : Nat → Nat) : Nat → Int × Nat
  | 0 => (-1, 0)
  | k + 1 => if (bst c k).2 < c k then ((k : Int), c k) else bst c k
theorem bst_of (c : Nat → Nat) : ∀ k, (bst c k).1 = -1 ∧ (bst c k).2 = 0 ∨ ∃ r, r < k ∧ (bst c k).1 = (r : Int) ∧ (bst c k).2 = c r ∧ 0 < c r
  | 0 => .inl ⟨rfl, rfl⟩
  | k + 1 => by
    unfold bst
    split
    · exact .inr ⟨k, by omega, rfl, rfl, by omega⟩
    · rcases bst_of c k with h | ⟨r, h1, h2⟩
      · exact .inl h
      · exact .inr ⟨r, by omega, h2⟩
theorem cof_le (t : Nat → Nat → Int) (r : Nat) (now s : Int) : cof t r now s ≤ 64 := by
  unfold cof; have := cnt_le (t r) now s (min (t r 64).toNat 64); omega
/-- (*Board).Busiest -/
theorem sp34 (p q : List Nat) (l s now : Int) (n : Nat) (t : Nat → Nat → Int) (h : AH) (hB : Brd h p q l s n t) (ht : ∀ r j, r < n → j < 65 → -4611686018427387904 ≤ t r j ∧ t r j ≤ 4611686018427387903) (h0 : ∀ r, r < n → 0 ≤ t r 64) (hn : -4611686018427387904 ≤ now ∧ now ≤ 4611686018427387903) (hn4 : n ≤ 4) :
    Sp T 34 [.ptr p 0, .int .i64 now] h (fun v h' => v = .tup [.int .i64 (bst (fun r => cof t r now s) n).1, .int .i64 (bst (fun r => cof t r now s) n).2] ∧ h' = h) := by
  have hc : ∀ k : Nat, k < n → Sp T 32 [.ptr p 0, .int .i64 (k : Int), .int .i64 now] h (fun v h' => v = .int .i64 (cof t k now s) ∧ h' = h) := fun k hk => by
    have := sp32 p q l s k now n t h hB ht h0 hn
    rw [if_pos ⟨by omega, by omega⟩, Int.toNat_natCast] at this
    exact this
  obtain ⟨hp, _⟩ := hB
  generalize hcf : (fun r => cof t r now s) = c
  have hc' : ∀ k : Nat, k < n → Sp T 32 [.ptr p 0, .int .i64 (k : Int), .int .i64 now] h (fun v h' => v = .int .i64 (c k) ∧ h' = h) := by rw [← hcf]; exact hc
  clear hc hcf ht h0
  refine Sp_of (fn := f34) rfl (show W T b34 [.ptr p 0, .int .i64 now, .tup [], .tup [], .tup [], .tup [], .tup [], .tup [], .tup [], .tup [], .tup [], .tup [], .tup [], .tup [], .tup [], .tup [], .tup [], .tup [], .tup [], .tup [], .tup [], .tup [], .tup [], .tup [], .tup [], .tup [], .tup [], .tup [], .tup [], .tup []] _ _ from ?_)
  unfold b34
  repeat' (first
    | (refine wNil ?_)
    | (refine wPure rfl (by (first | (simp only [go_sem, *]; (first | done | exact rfl)) | rfl)) rfl (by (first | (simp only [go_sem, *]; (first | done | exact rfl)) | rfl)) ?_; dsimp only [putT, ev, Int.toNat_zero, Nat.sub_zero, Int.toNat_natCast,  gd_zero, gd_succ, Nat.zero_add, Nat.add_zero, Nat.reduceAdd, Nat.reduceMul, List.set_cons_zero, List.set_cons_succ, keep, List.contains_cons, List.contains_nil])
    | (refine wMk rfl (by (first | (simp only [go_sem, *]; (first | done | exact rfl)) | rfl)) rfl ?_; intro id hid; (try simp only [set_none_iff] at hid); refine ⟨_, (by (first | (simp only [go_sem, *]; (first | done | exact rfl)) | rfl)), ?_⟩; dsimp only [putT, ev, Int.toNat_zero, Nat.sub_zero, Int.toNat_natCast,  gd_zero, gd_succ, Nat.zero_add, Nat.add_zero, Nat.reduceAdd, Nat.reduceMul, List.set_cons_zero, List.set_cons_succ, keep, List.contains_cons, List.contains_nil])
    | (refine wChk rfl (by (first | (simp only [go_sem, *]; (first | done | exact rfl)) | rfl)) rfl (by (first | (simp only [go_sem, *]; (first | done | exact rfl)) | rfl)) rfl ?_) | (refine wChkF rfl (by (first | (simp only [go_sem, *]; (first | done | exact rfl)) | rfl)) rfl ?_)
    | (refine wSkip rfl (by (first | (simp only [go_sem, *]; (first | done | exact rfl)) | rfl)) ?_; dsimp only [putT, ev, Int.toNat_zero, Nat.sub_zero, Int.toNat_natCast,  gd_zero, gd_succ, Nat.zero_add, Nat.add_zero, Nat.reduceAdd, Nat.reduceMul, List.set_cons_zero, List.set_cons_succ, keep, List.contains_cons, List.contains_nil])
    | (refine cSeq ?_) | (refine cNorm ?_) | (refine cRet ?_) | (refine cExit ?_) | (refine W_reg rfl ?_) | (refine W_block ?_) | (refine W_ret ?_) | (refine W_skip ?_) | (refine W_exit ?_) | (refine bNorm ?_) | (refine bRet ?_) | (refine bExit ?_) | (refine bExitN rfl ?_)
    | (refine cMask' (by simp only [keep, List.contains_cons, List.contains_nil, Nat.reduceBEq, Bool.or_true, Bool.true_or, Bool.or_false, Bool.false_or, if_true, if_false, Bool.false_eq_true, beq_self_eq_true, Nat.zero_add, Nat.reduceAdd, eq_self]; exact rfl) ?_)
    | (refine cT (by (first | (simp only [go_sem, *]; (first | done | exact rfl)) | rfl)) ?_) | (refine cF (by (first | (simp only [go_sem, *]; (first | done | exact rfl)) | rfl)) ?_)
    | (refine rRet (by (first | (simp only [go_sem, *]; (first | done | exact rfl)) | rfl)) ?_) | (refine rNorm (by (first | (simp only [go_sem, *]; (first | done | exact rfl)) | rfl)) ?_)
    | (refine wSplit _ rfl (by (first | (simp only [go_sem, *]; (first | done | exact rfl)) | rfl)) ?_ ?_ <;> intro hb <;> (try simp only [beq_false, beq_true, Bool.not_true, Bool.not_false, Bool.not_eq_true', Bool.not_eq_false', decide_eq_false_iff_not, decide_eq_true_eq, bne_iff_ne, beq_iff_eq, Bool.true_eq, Bool.false_eq, Bool.not_not, Bool.and_eq_true, Bool.or_eq_true, Bool.bne_true, Bool.bne_false, bne_eq_false_iff_eq, beq_eq_false_iff_ne, ne_eq] at hb))
    | (refine W_cond _ (by (first | (simp only [go_sem, *]; (first | done | exact rfl)) | rfl)) ?_ ?_ <;> intro hb <;> (try simp only [beq_false, beq_true, Bool.not_true, Bool.not_false, Bool.not_eq_true', Bool.not_eq_false', decide_eq_false_iff_not, decide_eq_true_eq, bne_iff_ne, beq_iff_eq, Bool.true_eq, Bool.false_eq, Bool.not_not, Bool.and_eq_true, Bool.or_eq_true, Bool.bne_true, Bool.bne_false, bne_eq_false_iff_eq, beq_eq_false_iff_ne, ne_eq] at hb)))
  refine W_loop (fun m tm h' => ∃ k, k + m = n ∧ h' = h ∧ keep [0, 1, 6, 7, 14, 15] 0 tm = [.ptr p 0, .int .i64 now, .und, .und, .und, .und, .int .i64 (bst c k).1, .int .i64 (bst c k).2, .und, .und, .und, .und, .und, .und, .int .i64 n, .int .i64 k, .und, .und, .und, .und, .und, .und, .und, .und, .und, .und, .und, .und, .und, .und]) n ⟨0, by omega, rfl, rfl⟩ ?_
  rintro m tm h' ⟨k, hk, rfl, htm⟩
  refine cSeq (cMask (cNorm ?_))
  rw [htm]; clear htm
  by_cases hkn : k < n
  · have d1 : (k : Int) < (n : Int) := by omega
    have d4 : IntKind.i64.wrap ((k : Int) + 1) = ((k + 1 : Nat) : Int) := by rw [wrap64 (by omega) (by omega)]; rfl
    have hck := hc' k hkn
    have e0 : bst c (k + 1) = if (bst c k).2 < c k then ((k : Int), c k) else bst c k := rfl
    clear hc'
    repeat' (first
      | (refine wNil ?_)
      | (refine wPure rfl (by (first | (simp only [go_sem, *]; (first | done | exact rfl)) | rfl)) rfl (by (first | (simp only [go_sem, *]; (first | done | exact rfl)) | rfl)) ?_; dsimp only [putT, ev, Int.toNat_zero, Nat.sub_zero, Int.toNat_natCast,  gd_zero, gd_succ, Nat.zero_add, Nat.add_zero, Nat.reduceAdd, Nat.reduceMul, List.set_cons_zero, List.set_cons_succ, keep, List.contains_cons, List.contains_nil])
      | (refine wMk rfl (by (first | (simp only [go_sem, *]; (first | done | exact rfl)) | rfl)) rfl ?_; intro id hid; (try simp only [set_none_iff] at hid); refine ⟨_, (by (first | (simp only [go_sem, *]; (first | done | exact rfl)) | rfl)), ?_⟩; dsimp only [putT, ev, Int.toNat_zero, Nat.sub_zero, Int.toNat_natCast,  gd_zero, gd_succ, Nat.zero_add, Nat.add_zero, Nat.reduceAdd, Nat.reduceMul, List.set_cons_zero, List.set_cons_succ, keep, List.contains_cons, List.contains_nil])
      | (refine wChk rfl (by (first | (simp only [go_sem, *]; (first | done | exact rfl)) | rfl)) rfl (by (first | (simp only [go_sem, *]; (first | done | exact rfl)) | rfl)) rfl ?_) | (refine wChkF rfl (by (first | (simp only [go_sem, *]; (first | done | exact rfl)) | rfl)) rfl ?_)
      | (refine wSkip rfl (by (first | (simp only [go_sem, *]; (first | done | exact rfl)) | rfl)) ?_; dsimp only [putT, ev, Int.toNat_zero, Nat.sub_zero, Int.toNat_natCast,  gd_zero, gd_succ, Nat.zero_add, Nat.add_zero, Nat.reduceAdd, Nat.reduceMul, List.set_cons_zero, List.set_cons_succ, keep, List.contains_cons, List.contains_nil])
      | (refine wCall rfl (by (first | (simp only [awanted, gd_zero, gd_succ, beq_self_eq_true, beq_true, beq_false, Bool.not_true, Bool.not_false, *]; done) | rfl)) rfl (Sp.mono (hck) ?_); rintro v h' ⟨rfl, rfl⟩; dsimp only [putT, ev, Int.toNat_zero, Nat.sub_zero, Int.toNat_natCast,  gd_zero, gd_succ, Nat.zero_add, Nat.add_zero, Nat.reduceAdd, Nat.reduceMul, List.set_cons_zero, List.set_cons_succ, keep, List.contains_cons, List.contains_nil])
      | (refine cSeq ?_) | (refine cNorm ?_) | (refine cRet ?_) | (refine cExit ?_) | (refine W_reg rfl ?_) | (refine W_block ?_) | (refine W_ret ?_) | (refine W_skip ?_) | (refine W_exit ?_) | (refine bNorm ?_) | (refine bRet ?_) | (refine bExit ?_) | (refine bExitN rfl ?_)
      | (refine cMask' (by simp only [keep, List.contains_cons, List.contains_nil, Nat.reduceBEq, Bool.or_true, Bool.true_or, Bool.or_false, Bool.false_or, if_true, if_false, Bool.false_eq_true, beq_self_eq_true, Nat.zero_add, Nat.reduceAdd, eq_self]; exact rfl) ?_)
      | (refine cT (by (first | (simp only [go_sem, *]; (first | done | exact rfl)) | rfl)) ?_) | (refine cF (by (first | (simp only [go_sem, *]; (first | done | exact rfl)) | rfl)) ?_)
      | (refine rRet (by (first | (simp only [go_sem, *]; (first | done | exact rfl)) | rfl)) ?_) | (refine rNorm (by (first | (simp only [go_sem, *]; (first | done | exact rfl)) | rfl)) ?_)
      | (refine wSplit _ rfl (by (first | (simp only [go_sem, *]; (first | done | exact rfl)) | rfl)) ?_ ?_ <;> intro hb <;> (try simp only [beq_false, beq_true, Bool.not_true, Bool.not_false, Bool.not_eq_true', Bool.not_eq_false', decide_eq_false_iff_not, decide_eq_true_eq, bne_iff_ne, beq_iff_eq, Bool.true_eq, Bool.false_eq, Bool.not_not, Bool.and_eq_true, Bool.or_eq_true, Bool.bne_true, Bool.bne_false, bne_eq_false_iff_eq, beq_eq_false_iff_ne, ne_eq] at hb))
      | (refine W_cond _ (by (first | (simp only [go_sem, *]; (first | done | exact rfl)) | rfl)) ?_ ?_ <;> intro hb <;> (try simp only [beq_false, beq_true, Bool.not_true, Bool.not_false, Bool.not_eq_true', Bool.not_eq_false', decide_eq_false_iff_not, decide_eq_true_eq, bne_iff_ne, beq_iff_eq, Bool.true_eq, Bool.false_eq, Bool.not_not, Bool.and_eq_true, Bool.or_eq_true, Bool.bne_true, Bool.bne_false, bne_eq_false_iff_eq, beq_eq_false_iff_ne, ne_eq] at hb)))
    all_goals refine ⟨m - 1, by omega, k + 1, by omega, rfl, ?_⟩
    · rw [if_pos (by omega)] at e0; rw [e0]; simp only [keep, List.contains_cons, List.contains_nil, Nat.reduceBEq, Bool.or_true, Bool.true_or, Bool.or_false, Bool.false_or, if_true, if_false, Bool.false_eq_true, beq_self_eq_true, Nat.zero_add, Nat.reduceAdd, eq_self]
    · rw [if_neg (by omega)] at e0; rw [e0]; simp only [keep, List.contains_cons, List.contains_nil, Nat.reduceBEq, Bool.or_true, Bool.true_or, Bool.or_false, Bool.false_or, if_true, if_false, Bool.false_eq_true, beq_self_eq_true, Nat.zero_add, Nat.reduceAdd, eq_self]
  · have d1 : ¬ (k : Int) < (n : Int) := by omega
    clear hc'
    repeat' (first
      | (refine wNil ?_)
      | (refine wPure rfl (by (first | (simp only [go_sem, *]; (first | done | exact rfl)) | rfl)) rfl (by (first | (simp only [go_sem, *]; (first | done | exact rfl)) | rfl)) ?_; dsimp only [putT, ev, Int.toNat_zero, Nat.sub_zero, Int.toNat_natCast,  gd_zero, gd_succ, Nat.zero_add, Nat.add_zero, Nat.reduceAdd, Nat.reduceMul, List.set_cons_zero, List.set_cons_succ, keep, List.contains_cons, List.contains_nil])
      | (refine wMk rfl (by (first | (simp only [go_sem, *]; (first | done | exact rfl)) | rfl)) rfl ?_; intro id hid; (try simp only [set_none_iff] at hid); refine ⟨_, (by (first | (simp only [go_sem, *]; (first | done | exact rfl)) | rfl)), ?_⟩; dsimp only [putT, ev, Int.toNat_zero, Nat.sub_zero, Int.toNat_natCast,  gd_zero, gd_succ, Nat.zero_add, Nat.add_zero, Nat.reduceAdd, Nat.reduceMul, List.set_cons_zero, List.set_cons_succ, keep, List.contains_cons, List.contains_nil])
      | (refine wChk rfl (by (first | (simp only [go_sem, *]; (first | done | exact rfl)) | rfl)) rfl (by (first | (simp only [go_sem, *]; (first | done | exact rfl)) | rfl)) rfl ?_) | (refine wChkF rfl (by (first | (simp only [go_sem, *]; (first | done | exact rfl)) | rfl)) rfl ?_)
      | (refine wSkip rfl (by (first | (simp only [go_sem, *]; (first | done | exact rfl)) | rfl)) ?_; dsimp only [putT, ev, Int.toNat_zero, Nat.sub_zero, Int.toNat_natCast,  gd_zero, gd_succ, Nat.zero_add, Nat.add_zero, Nat.reduceAdd, Nat.reduceMul, List.set_cons_zero, List.set_cons_succ, keep, List.contains_cons, List.contains_nil])
      | (refine cSeq ?_) | (refine cNorm ?_) | (refine cRet ?_) | (refine cExit ?_) | (refine W_reg rfl ?_) | (refine W_block ?_) | (refine W_ret ?_) | (refine W_skip ?_) | (refine W_exit ?_) | (refine bNorm ?_) | (refine bRet ?_) | (refine bExit ?_) | (refine bExitN rfl ?_)
      | (refine cMask' (by simp only [keep, List.contains_cons, List.contains_nil, Nat.reduceBEq, Bool.or_true, Bool.true_or, Bool.or_false, Bool.false_or, if_true, if_false, Bool.false_eq_true, beq_self_eq_true, Nat.zero_add, Nat.reduceAdd, eq_self]; exact rfl) ?_)
      | (refine cT (by (first | (simp only [go_sem, *]; (first | done | exact rfl)) | rfl)) ?_) | (refine cF (by (first | (simp only [go_sem, *]; (first | done | exact rfl)) | rfl)) ?_)
      | (refine rRet (by (first | (simp only [go_sem, *]; (first | done | exact rfl)) | rfl)) ?_) | (refine rNorm (by (first | (simp only [go_sem, *]; (first | done | exact rfl)) | rfl)) ?_)
      | (refine wSplit _ rfl (by (first | (simp only [go_sem, *]; (first | done | exact rfl)) | rfl)) ?_ ?_ <;> intro hb <;> (try simp only [beq_false, beq_true, Bool.not_true, Bool.not_false, Bool.not_eq_true', Bool.not_eq_false', decide_eq_false_iff_not, decide_eq_true_eq, bne_iff_ne, beq_iff_eq, Bool.true_eq, Bool.false_eq, Bool.not_not, Bool.and_eq_true, Bool.or_eq_true, Bool.bne_true, Bool.bne_false, bne_eq_false_iff_eq, beq_eq_false_iff_ne, ne_eq] at hb))
      | (refine W_cond _ (by (first | (simp only [go_sem, *]; (first | done | exact rfl)) | rfl)) ?_ ?_ <;> intro hb <;> (try simp only [beq_false, beq_true, Bool.not_true, Bool.not_false, Bool.not_eq_true', Bool.not_eq_false', decide_eq_false_iff_not, decide_eq_true_eq, bne_iff_ne, beq_iff_eq, Bool.true_eq, Bool.false_eq, Bool.not_not, Bool.and_eq_true, Bool.or_eq_true, Bool.bne_true, Bool.bne_false, bne_eq_false_iff_eq, beq_eq_false_iff_ne, ne_eq] at hb)))
    obtain rfl : k = n := by omega
    exact ⟨rfl, rfl⟩
end Go.Proofs.YtllagimocmdldaaI
