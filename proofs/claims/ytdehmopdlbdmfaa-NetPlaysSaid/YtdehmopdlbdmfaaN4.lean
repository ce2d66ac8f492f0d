import Derived.Test.YtdehmopdlbdmfaaN3
set_option linter.unusedVariables false
set_option linter.unusedSimpArgs false
set_option maxRecDepth 100000
set_option maxHeartbeats 4000000
namespace Go.Proofs.YtdehmopdlbdmfaaI
open Go Go.Proofs.YtdehmopdlbdmfaaM
attribute [local go_sem] aop ev fg_slc fg_slk fg_ptr fg_bool fg_int fg_str fg_iface fg_func fg_agg fg_tup fg_nils fg_nilp fg_nilI fg_nilF fg_und aboundsK alen_nils alen_slc alen_slk aslice_nils aslice_slc aslice_slk awanted abin aun aint aeqn aeqc aeqs apart abounds abnd amaxi amaxiGo cells_agg cells_slc cells_slk cells_ptr cells_bool cells_int cells_str cells_iface cells_func cells_tup cells_nils cells_nilp cells_nilI cells_nilF cells_und sc_slc sc_slk sc_ptr sc_bool sc_int sc_str sc_iface sc_func sc_nils sc_nilp sc_nilI sc_nilF gd_zero gd_succ List.all_cons List.all_nil Bool.and_self Bool.and_true Bool.true_and List.length_cons List.length_nil Option.map_some Option.some.injEq cell_same cell_ne cell_ne' cellsAt_same cellsAt_ne cellsAt_ne' put_same put_of set_same set_ne set_ne' List.getElem?_cons_zero List.getElem?_cons_succ if_true if_false and_self and_true true_and ne_eq not_true_eq_false not_false_eq_true decide_true decide_false Bool.false_eq_true Bool.true_eq_false beq_self_eq_true bne_self_eq_false beq_true beq_false Bool.not_true Bool.not_false List.map_cons List.map_nil putL List.set_cons_zero List.set_cons_succ afill Nat.zero_le Nat.le_refl Nat.zero_add Nat.add_zero List.drop_zero List.drop_succ_cons List.take_zero List.take_succ_cons Bool.not_eq_true Bool.not_eq_false decide_eq_true_eq decide_eq_false_iff_not Int.toNat_zero Nat.sub_zero Int.toNat_natCast Bool.bne_true Bool.bne_false AH.cell AH.cellsAt AH.put Nat.mul_one Nat.one_mul Int.natCast_nonneg List.length_set bne_self_eq_false amaxi amaxiGo azeros List.cons_append List.nil_append List.append_nil

/-- Again -/
theorem sp17 (h0 : AH) (p : List Nat) (k : Nat) (q : Pk) (N : Int) (L : List Pk) (C : List Int) (h : AH) (hn : Nt h0 p h N L C) (hk : L[k]? = some q) (hw : isW N q.1 q.2.1 = true) (hb : L.length < 4000) : Sp T 17 [.ptr p 0, .int .i64 (k : Int)] h (fun v h' => v = .bool true ∧ Nt h0 p h' N (L ++ [q]) C) := by
  have c65 := sp65t p k q N L C h hn.rd hk
  have c16 := fun (h1 : AH) (hu : Up h h1) => sp16 h0 p q N L C h1 (hn.up hu) hw hb
  simp only [e3] at c65
  have hu := Up.refl h
  clear hk hw hb
  refine Sp_of (fn := f17) rfl (show W T b17 [.ptr p 0, .int .i64 (k : Int), .tup [], .tup [], .tup [], .tup [], .tup [], .tup [], .tup [], .tup [], .tup [], .tup [], .tup [], .tup [], .tup [], .tup [], .tup [], .tup [], .tup []] _ _ from ?_)
  unfold b17
  repeat' (first
    | (refine wNil ?_)
    | (refine wPure rfl (by (first | (simp only [go_sem, *]; (first | done | exact rfl)) | rfl)) rfl (by (first | (simp only [go_sem, *]; (first | done | exact rfl)) | rfl)) ?_; dsimp only [putT, ev, Int.toNat_zero, Nat.sub_zero, Int.toNat_natCast,  gd_zero, gd_succ, Nat.zero_add, Nat.add_zero, Nat.reduceAdd, Nat.reduceMul, List.set_cons_zero, List.set_cons_succ, keep, List.contains_cons, List.contains_nil])
    | (refine wMk rfl (by (first | (simp only [go_sem, *]; (first | done | exact rfl)) | rfl)) rfl ?_; intro id hid; have hid0 := hid; (try simp only [set_none_iff] at hid); have hz := hid; (repeat (replace hz := hz.2)); (first | have := Up.none hu hz | (have := Up.none (Up.trans hu (by (repeat' first | assumption | exact Up.refl _ | refine Up.new ?_ ?_))) hid0) | skip); (first | have := Up.none hu1 hz | (have := Up.none (Up.trans hu1 (by (repeat' first | assumption | exact Up.refl _ | refine Up.new ?_ ?_))) hid0) | skip); clear hid0; refine ⟨_, (by (first | (simp only [go_sem, *]; (first | done | exact rfl)) | rfl)), ?_⟩; dsimp only [putT, ev, Int.toNat_zero, Nat.sub_zero, Int.toNat_natCast,  gd_zero, gd_succ, Nat.zero_add, Nat.add_zero, Nat.reduceAdd, Nat.reduceMul, List.set_cons_zero, List.set_cons_succ, keep, List.contains_cons, List.contains_nil])
    | (refine wChk rfl (by (first | (simp only [go_sem, *]; (first | done | exact rfl)) | rfl)) rfl (by (first | (simp only [go_sem, *]; (first | done | exact rfl)) | rfl)) rfl ?_) | (refine wChkF rfl (by (first | (simp only [go_sem, *]; (first | done | exact rfl)) | rfl)) rfl ?_)
    | (refine wSkip rfl (by (first | (simp only [go_sem, *]; (first | done | exact rfl)) | rfl)) ?_; dsimp only [putT, ev, Int.toNat_zero, Nat.sub_zero, Int.toNat_natCast,  gd_zero, gd_succ, Nat.zero_add, Nat.add_zero, Nat.reduceAdd, Nat.reduceMul, List.set_cons_zero, List.set_cons_succ, keep, List.contains_cons, List.contains_nil])
    | (refine wCall rfl (by (first | (simp only [awanted, gd_zero, gd_succ, beq_self_eq_true, beq_true, beq_false, Bool.not_true, Bool.not_false, *]; done) | rfl)) rfl (Sp.mono (c65) ?_); rintro v h1 ⟨rfl, hu1⟩; dsimp only [putT, ev, Int.toNat_zero, Nat.sub_zero, Int.toNat_natCast,  gd_zero, gd_succ, Nat.zero_add, Nat.add_zero, Nat.reduceAdd, Nat.reduceMul, List.set_cons_zero, List.set_cons_succ, keep, List.contains_cons, List.contains_nil])
    | (refine wCall rfl (by (first | (simp only [awanted, gd_zero, gd_succ, beq_self_eq_true, beq_true, beq_false, Bool.not_true, Bool.not_false, *]; done) | rfl)) rfl (Sp.mono (c16 _ (by repeat' (first | assumption | exact Up.refl _ | refine Up.new ?_ ?_))) ?_); rintro v h2 ⟨rfl, hn2⟩; dsimp only [putT, ev, Int.toNat_zero, Nat.sub_zero, Int.toNat_natCast,  gd_zero, gd_succ, Nat.zero_add, Nat.add_zero, Nat.reduceAdd, Nat.reduceMul, List.set_cons_zero, List.set_cons_succ, keep, List.contains_cons, List.contains_nil])
    | (refine cSeq ?_) | (refine cNorm ?_) | (refine cRet ?_) | (refine cExit ?_) | (refine W_reg rfl ?_) | (refine W_block ?_) | (refine W_ret ?_) | (refine W_skip ?_) | (refine W_exit ?_) | (refine bNorm ?_) | (refine bRet ?_) | (refine bExit ?_) | (refine bExitN rfl ?_)
    | (refine cMask' (by simp only [keep, List.contains_cons, List.contains_nil, Nat.reduceBEq, Bool.or_true, Bool.true_or, Bool.or_false, Bool.false_or, if_true, if_false, Bool.false_eq_true, beq_self_eq_true, Nat.zero_add, Nat.reduceAdd, eq_self]; exact rfl) ?_)
    | (refine cT (by (first | (simp only [go_sem, *]; (first | done | exact rfl)) | rfl)) ?_) | (refine cF (by (first | (simp only [go_sem, *]; (first | done | exact rfl)) | rfl)) ?_)
    | (refine rRet (by (first | (simp only [go_sem, *]; (first | done | exact rfl)) | rfl)) ?_) | (refine rNorm (by (first | (simp only [go_sem, *]; (first | done | exact rfl)) | rfl)) ?_)
    | (refine wSplit _ rfl (by (first | (simp only [go_sem, *]; (first | done | exact rfl)) | rfl)) ?_ ?_ <;> intro hb <;> (try simp only [beq_false, beq_true, Bool.not_true, Bool.not_false, Bool.not_eq_true', Bool.not_eq_false', decide_eq_false_iff_not, decide_eq_true_eq, bne_iff_ne, beq_iff_eq, Bool.true_eq, Bool.false_eq, Bool.not_not, Bool.and_eq_true, Bool.or_eq_true, Bool.bne_true, Bool.bne_false, bne_eq_false_iff_eq, beq_eq_false_iff_ne, ne_eq] at hb))
    | (refine W_cond _ (by (first | (simp only [go_sem, *]; (first | done | exact rfl)) | rfl)) ?_ ?_ <;> intro hb <;> (try simp only [beq_false, beq_true, Bool.not_true, Bool.not_false, Bool.not_eq_true', Bool.not_eq_false', decide_eq_false_iff_not, decide_eq_true_eq, bne_iff_ne, beq_iff_eq, Bool.true_eq, Bool.false_eq, Bool.not_not, Bool.and_eq_true, Bool.or_eq_true, Bool.bne_true, Bool.bne_false, bne_eq_false_iff_eq, beq_eq_false_iff_ne, ne_eq] at hb)))
  all_goals exact ⟨rfl, hn2⟩
theorem sp17n (h0 : AH) (p : List Nat) (k : Nat) (q : Pk) (N : Int) (L : List Pk) (C : List Int) (h : AH) (hn : Nt h0 p h N L C) (hk : L[k]? = some q) (hw : isW N q.1 q.2.1 = false ∨ ¬ L.length < 4000) : Sp T 17 [.ptr p 0, .int .i64 (k : Int)] h (fun v h' => v = .bool false ∧ Nt h0 p h' N L C) := by
  have c65 := sp65t p k q N L C h hn.rd hk
  have c16 := fun (h1 : AH) (hu : Up h h1) => sp16f h0 p q N L C h1 (hn.up hu) hw
  simp only [e3] at c65
  have hu := Up.refl h
  clear hk hw
  refine Sp_of (fn := f17) rfl (show W T b17 [.ptr p 0, .int .i64 (k : Int), .tup [], .tup [], .tup [], .tup [], .tup [], .tup [], .tup [], .tup [], .tup [], .tup [], .tup [], .tup [], .tup [], .tup [], .tup [], .tup [], .tup []] _ _ from ?_)
  unfold b17
  repeat' (first
    | (refine wNil ?_)
    | (refine wPure rfl (by (first | (simp only [go_sem, *]; (first | done | exact rfl)) | rfl)) rfl (by (first | (simp only [go_sem, *]; (first | done | exact rfl)) | rfl)) ?_; dsimp only [putT, ev, Int.toNat_zero, Nat.sub_zero, Int.toNat_natCast,  gd_zero, gd_succ, Nat.zero_add, Nat.add_zero, Nat.reduceAdd, Nat.reduceMul, List.set_cons_zero, List.set_cons_succ, keep, List.contains_cons, List.contains_nil])
    | (refine wMk rfl (by (first | (simp only [go_sem, *]; (first | done | exact rfl)) | rfl)) rfl ?_; intro id hid; have hid0 := hid; (try simp only [set_none_iff] at hid); have hz := hid; (repeat (replace hz := hz.2)); (first | have := Up.none hu hz | (have := Up.none (Up.trans hu (by (repeat' first | assumption | exact Up.refl _ | refine Up.new ?_ ?_))) hid0) | skip); (first | have := Up.none hu1 hz | (have := Up.none (Up.trans hu1 (by (repeat' first | assumption | exact Up.refl _ | refine Up.new ?_ ?_))) hid0) | skip); clear hid0; refine ⟨_, (by (first | (simp only [go_sem, *]; (first | done | exact rfl)) | rfl)), ?_⟩; dsimp only [putT, ev, Int.toNat_zero, Nat.sub_zero, Int.toNat_natCast,  gd_zero, gd_succ, Nat.zero_add, Nat.add_zero, Nat.reduceAdd, Nat.reduceMul, List.set_cons_zero, List.set_cons_succ, keep, List.contains_cons, List.contains_nil])
    | (refine wChk rfl (by (first | (simp only [go_sem, *]; (first | done | exact rfl)) | rfl)) rfl (by (first | (simp only [go_sem, *]; (first | done | exact rfl)) | rfl)) rfl ?_) | (refine wChkF rfl (by (first | (simp only [go_sem, *]; (first | done | exact rfl)) | rfl)) rfl ?_)
    | (refine wSkip rfl (by (first | (simp only [go_sem, *]; (first | done | exact rfl)) | rfl)) ?_; dsimp only [putT, ev, Int.toNat_zero, Nat.sub_zero, Int.toNat_natCast,  gd_zero, gd_succ, Nat.zero_add, Nat.add_zero, Nat.reduceAdd, Nat.reduceMul, List.set_cons_zero, List.set_cons_succ, keep, List.contains_cons, List.contains_nil])
    | (refine wCall rfl (by (first | (simp only [awanted, gd_zero, gd_succ, beq_self_eq_true, beq_true, beq_false, Bool.not_true, Bool.not_false, *]; done) | rfl)) rfl (Sp.mono (c65) ?_); rintro v h1 ⟨rfl, hu1⟩; dsimp only [putT, ev, Int.toNat_zero, Nat.sub_zero, Int.toNat_natCast,  gd_zero, gd_succ, Nat.zero_add, Nat.add_zero, Nat.reduceAdd, Nat.reduceMul, List.set_cons_zero, List.set_cons_succ, keep, List.contains_cons, List.contains_nil])
    | (refine wCall rfl (by (first | (simp only [awanted, gd_zero, gd_succ, beq_self_eq_true, beq_true, beq_false, Bool.not_true, Bool.not_false, *]; done) | rfl)) rfl (Sp.mono (c16 _ (by repeat' (first | assumption | exact Up.refl _ | refine Up.new ?_ ?_))) ?_); rintro v h2 ⟨rfl, hn2⟩; dsimp only [putT, ev, Int.toNat_zero, Nat.sub_zero, Int.toNat_natCast,  gd_zero, gd_succ, Nat.zero_add, Nat.add_zero, Nat.reduceAdd, Nat.reduceMul, List.set_cons_zero, List.set_cons_succ, keep, List.contains_cons, List.contains_nil])
    | (refine cSeq ?_) | (refine cNorm ?_) | (refine cRet ?_) | (refine cExit ?_) | (refine W_reg rfl ?_) | (refine W_block ?_) | (refine W_ret ?_) | (refine W_skip ?_) | (refine W_exit ?_) | (refine bNorm ?_) | (refine bRet ?_) | (refine bExit ?_) | (refine bExitN rfl ?_)
    | (refine cMask' (by simp only [keep, List.contains_cons, List.contains_nil, Nat.reduceBEq, Bool.or_true, Bool.true_or, Bool.or_false, Bool.false_or, if_true, if_false, Bool.false_eq_true, beq_self_eq_true, Nat.zero_add, Nat.reduceAdd, eq_self]; exact rfl) ?_)
    | (refine cT (by (first | (simp only [go_sem, *]; (first | done | exact rfl)) | rfl)) ?_) | (refine cF (by (first | (simp only [go_sem, *]; (first | done | exact rfl)) | rfl)) ?_)
    | (refine rRet (by (first | (simp only [go_sem, *]; (first | done | exact rfl)) | rfl)) ?_) | (refine rNorm (by (first | (simp only [go_sem, *]; (first | done | exact rfl)) | rfl)) ?_)
    | (refine wSplit _ rfl (by (first | (simp only [go_sem, *]; (first | done | exact rfl)) | rfl)) ?_ ?_ <;> intro hb <;> (try simp only [beq_false, beq_true, Bool.not_true, Bool.not_false, Bool.not_eq_true', Bool.not_eq_false', decide_eq_false_iff_not, decide_eq_true_eq, bne_iff_ne, beq_iff_eq, Bool.true_eq, Bool.false_eq, Bool.not_not, Bool.and_eq_true, Bool.or_eq_true, Bool.bne_true, Bool.bne_false, bne_eq_false_iff_eq, beq_eq_false_iff_ne, ne_eq] at hb))
    | (refine W_cond _ (by (first | (simp only [go_sem, *]; (first | done | exact rfl)) | rfl)) ?_ ?_ <;> intro hb <;> (try simp only [beq_false, beq_true, Bool.not_true, Bool.not_false, Bool.not_eq_true', Bool.not_eq_false', decide_eq_false_iff_not, decide_eq_true_eq, bne_iff_ne, beq_iff_eq, Bool.true_eq, Bool.false_eq, Bool.not_not, Bool.and_eq_true, Bool.or_eq_true, Bool.bne_true, Bool.bne_false, bne_eq_false_iff_eq, beq_eq_false_iff_ne, ne_eq] at hb)))
  all_goals exact ⟨rfl, hn2⟩
theorem sp17f (h0 : AH) (p : List Nat) (k : Int) (N : Int) (L : List Pk) (C : List Int) (h : AH) (hn : Nt h0 p h N L C) (hk : ¬ (0 ≤ k ∧ k < L.length)) : Sp T 17 [.ptr p 0, .int .i64 k] h (fun v h' => v = .bool false ∧ Nt h0 p h' N L C) := by
  have c65 := sp65f p k N L C h hn.rd hk
  have hu := Up.refl h
  clear hk
  refine Sp_of (fn := f17) rfl (show W T b17 [.ptr p 0, .int .i64 k, .tup [], .tup [], .tup [], .tup [], .tup [], .tup [], .tup [], .tup [], .tup [], .tup [], .tup [], .tup [], .tup [], .tup [], .tup [], .tup [], .tup []] _ _ from ?_)
  unfold b17
  repeat' (first
    | (refine wNil ?_)
    | (refine wPure rfl (by (first | (simp only [go_sem, *]; (first | done | exact rfl)) | rfl)) rfl (by (first | (simp only [go_sem, *]; (first | done | exact rfl)) | rfl)) ?_; dsimp only [putT, ev, Int.toNat_zero, Nat.sub_zero, Int.toNat_natCast,  gd_zero, gd_succ, Nat.zero_add, Nat.add_zero, Nat.reduceAdd, Nat.reduceMul, List.set_cons_zero, List.set_cons_succ, keep, List.contains_cons, List.contains_nil])
    | (refine wMk rfl (by (first | (simp only [go_sem, *]; (first | done | exact rfl)) | rfl)) rfl ?_; intro id hid; have hid0 := hid; (try simp only [set_none_iff] at hid); have hz := hid; (repeat (replace hz := hz.2)); (first | have := Up.none hu hz | (have := Up.none (Up.trans hu (by (repeat' first | assumption | exact Up.refl _ | refine Up.new ?_ ?_))) hid0) | skip); (first | have := Up.none hu1 hz | (have := Up.none (Up.trans hu1 (by (repeat' first | assumption | exact Up.refl _ | refine Up.new ?_ ?_))) hid0) | skip); clear hid0; refine ⟨_, (by (first | (simp only [go_sem, *]; (first | done | exact rfl)) | rfl)), ?_⟩; dsimp only [putT, ev, Int.toNat_zero, Nat.sub_zero, Int.toNat_natCast,  gd_zero, gd_succ, Nat.zero_add, Nat.add_zero, Nat.reduceAdd, Nat.reduceMul, List.set_cons_zero, List.set_cons_succ, keep, List.contains_cons, List.contains_nil])
    | (refine wChk rfl (by (first | (simp only [go_sem, *]; (first | done | exact rfl)) | rfl)) rfl (by (first | (simp only [go_sem, *]; (first | done | exact rfl)) | rfl)) rfl ?_) | (refine wChkF rfl (by (first | (simp only [go_sem, *]; (first | done | exact rfl)) | rfl)) rfl ?_)
    | (refine wSkip rfl (by (first | (simp only [go_sem, *]; (first | done | exact rfl)) | rfl)) ?_; dsimp only [putT, ev, Int.toNat_zero, Nat.sub_zero, Int.toNat_natCast,  gd_zero, gd_succ, Nat.zero_add, Nat.add_zero, Nat.reduceAdd, Nat.reduceMul, List.set_cons_zero, List.set_cons_succ, keep, List.contains_cons, List.contains_nil])
    | (refine wCall rfl (by (first | (simp only [awanted, gd_zero, gd_succ, beq_self_eq_true, beq_true, beq_false, Bool.not_true, Bool.not_false, *]; done) | rfl)) rfl (Sp.mono (c65) ?_); rintro v h1 ⟨rfl, hu1⟩; dsimp only [putT, ev, Int.toNat_zero, Nat.sub_zero, Int.toNat_natCast,  gd_zero, gd_succ, Nat.zero_add, Nat.add_zero, Nat.reduceAdd, Nat.reduceMul, List.set_cons_zero, List.set_cons_succ, keep, List.contains_cons, List.contains_nil])
    | (refine cSeq ?_) | (refine cNorm ?_) | (refine cRet ?_) | (refine cExit ?_) | (refine W_reg rfl ?_) | (refine W_block ?_) | (refine W_ret ?_) | (refine W_skip ?_) | (refine W_exit ?_) | (refine bNorm ?_) | (refine bRet ?_) | (refine bExit ?_) | (refine bExitN rfl ?_)
    | (refine cMask' (by simp only [keep, List.contains_cons, List.contains_nil, Nat.reduceBEq, Bool.or_true, Bool.true_or, Bool.or_false, Bool.false_or, if_true, if_false, Bool.false_eq_true, beq_self_eq_true, Nat.zero_add, Nat.reduceAdd, eq_self]; exact rfl) ?_)
    | (refine cT (by (first | (simp only [go_sem, *]; (first | done | exact rfl)) | rfl)) ?_) | (refine cF (by (first | (simp only [go_sem, *]; (first | done | exact rfl)) | rfl)) ?_)
    | (refine rRet (by (first | (simp only [go_sem, *]; (first | done | exact rfl)) | rfl)) ?_) | (refine rNorm (by (first | (simp only [go_sem, *]; (first | done | exact rfl)) | rfl)) ?_)
    | (refine wSplit _ rfl (by (first | (simp only [go_sem, *]; (first | done | exact rfl)) | rfl)) ?_ ?_ <;> intro hb <;> (try simp only [beq_false, beq_true, Bool.not_true, Bool.not_false, Bool.not_eq_true', Bool.not_eq_false', decide_eq_false_iff_not, decide_eq_true_eq, bne_iff_ne, beq_iff_eq, Bool.true_eq, Bool.false_eq, Bool.not_not, Bool.and_eq_true, Bool.or_eq_true, Bool.bne_true, Bool.bne_false, bne_eq_false_iff_eq, beq_eq_false_iff_ne, ne_eq] at hb))
    | (refine W_cond _ (by (first | (simp only [go_sem, *]; (first | done | exact rfl)) | rfl)) ?_ ?_ <;> intro hb <;> (try simp only [beq_false, beq_true, Bool.not_true, Bool.not_false, Bool.not_eq_true', Bool.not_eq_false', decide_eq_false_iff_not, decide_eq_true_eq, bne_iff_ne, beq_iff_eq, Bool.true_eq, Bool.false_eq, Bool.not_not, Bool.and_eq_true, Bool.or_eq_true, Bool.bne_true, Bool.bne_false, bne_eq_false_iff_eq, beq_eq_false_iff_ne, ne_eq] at hb)))
  all_goals exact ⟨rfl, hn.up (by repeat' (first | assumption | exact Up.refl _ | refine Up.new ?_ ?_))⟩
theorem erase_len {L : List Pk} {k : Nat} {q : Pk} (hk : L[k]? = some q) : (L.eraseIdx k).length + 1 = L.length := by
  have := (List.getElem?_eq_some_iff.1 hk).1
  rw [List.length_eraseIdx_of_lt this]; omega
/-- A block more in the base, of which the base needn't say anything later. -/
theorem Nt.less {h0 h : AH} {p x : List Nat} {N : Int} {L : List Pk} {C : List Int} {b : Option Blk} (hn : Nt (h0.set x b) p h N L C) (hx : h0 x = none) : Nt h0 p h N L C :=
  hn.weak fun y c hy => by rw [set_ne (nei hy hx)]; exact hy
theorem Nt.more2 {h0 h : AH} {p q : List Nat} {N : Int} {L : List Pk} {C : List Int} {z : Option Blk} {b : Blk} (hn : Nt h0 p h N L C) (hq : h q = none) : Nt (h0.set q (some b)) p ((h.set q z).set q (some b)) N L C := by
  rw [set_set]; exact hn.more hq
/-- Last -/
theorem sp18 (h0 : AH) (p : List Nat) (k : Nat) (q : Pk) (N : Int) (L : List Pk) (C : List Int) (h : AH) (hn : Nt h0 p h N L C) (hk : L[k]? = some q) (hw : isW N q.1 q.2.1 = true) (hb : L.length ≤ 4000) : Sp T 18 [.ptr p 0, .int .i64 (k : Int)] h (fun v h' => v = .bool true ∧ Nt h0 p h' N (L.eraseIdx k ++ [q]) C) := by
  have c65 := sp65t p k q N L C h hn.rd hk
  have hel := erase_len hk
  have c19 := fun (hb' h1 : AH) (hn1 : Nt hb' p h1 N L C) => sp19 hb' p k q N L C h1 hn1 hk hb
  have c16 := fun (hb' h1 : AH) (hn1 : Nt hb' p h1 N (L.eraseIdx k) C) => sp16 hb' p q N (L.eraseIdx k) C h1 hn1 hw (by omega)
  simp only [e3] at c65
  have hu := Up.refl h
  clear hk hw hb hel
  refine Sp_of (fn := f18) rfl (show W T b18 [.ptr p 0, .int .i64 (k : Int), .tup [], .tup [], .tup [], .tup [], .tup [], .tup [], .tup [], .tup [], .tup [], .tup [], .tup [], .tup [], .tup [], .tup [], .tup [], .tup [], .tup [], .tup [], .tup [], .tup [], .tup [], .tup []] _ _ from ?_)
  unfold b18
  repeat' (first
    | (refine wNil ?_)
    | (refine wPure rfl (by (first | (simp only [go_sem, *]; (first | done | exact rfl)) | rfl)) rfl (by (first | (simp only [go_sem, *]; (first | done | exact rfl)) | rfl)) ?_; dsimp only [putT, ev, Int.toNat_zero, Nat.sub_zero, Int.toNat_natCast,  gd_zero, gd_succ, Nat.zero_add, Nat.add_zero, Nat.reduceAdd, Nat.reduceMul, List.set_cons_zero, List.set_cons_succ, keep, List.contains_cons, List.contains_nil])
    | (refine wMk rfl (by (first | (simp only [go_sem, *]; (first | done | exact rfl)) | rfl)) rfl ?_; intro id hid; have hid0 := hid; (try simp only [set_none_iff] at hid); have hz := hid; (repeat (replace hz := hz.2)); (first | have := Up.none hu hz | (have := Up.none (Up.trans hu (by (repeat' first | assumption | exact Up.refl _ | refine Up.new ?_ ?_))) hid0) | skip); (first | have := Up.none hu1 hz | (have := Up.none (Up.trans hu1 (by (repeat' first | assumption | exact Up.refl _ | refine Up.new ?_ ?_))) hid0) | skip); clear hid0; refine ⟨_, (by (first | (simp only [go_sem, *]; (first | done | exact rfl)) | rfl)), ?_⟩; dsimp only [putT, ev, Int.toNat_zero, Nat.sub_zero, Int.toNat_natCast,  gd_zero, gd_succ, Nat.zero_add, Nat.add_zero, Nat.reduceAdd, Nat.reduceMul, List.set_cons_zero, List.set_cons_succ, keep, List.contains_cons, List.contains_nil])
    | (refine wChk rfl (by (first | (simp only [go_sem, *]; (first | done | exact rfl)) | rfl)) rfl (by (first | (simp only [go_sem, *]; (first | done | exact rfl)) | rfl)) rfl ?_) | (refine wChkF rfl (by (first | (simp only [go_sem, *]; (first | done | exact rfl)) | rfl)) rfl ?_)
    | (refine wSkip rfl (by (first | (simp only [go_sem, *]; (first | done | exact rfl)) | rfl)) ?_; dsimp only [putT, ev, Int.toNat_zero, Nat.sub_zero, Int.toNat_natCast,  gd_zero, gd_succ, Nat.zero_add, Nat.add_zero, Nat.reduceAdd, Nat.reduceMul, List.set_cons_zero, List.set_cons_succ, keep, List.contains_cons, List.contains_nil])
    | (refine wCall rfl (by (first | (simp only [awanted, gd_zero, gd_succ, beq_self_eq_true, beq_true, beq_false, Bool.not_true, Bool.not_false, *]; done) | rfl)) rfl (Sp.mono (c65) ?_); rintro v h1 ⟨rfl, hu1⟩; have hn1 := hn.up hu1; dsimp only [putT, ev, Int.toNat_zero, Nat.sub_zero, Int.toNat_natCast,  gd_zero, gd_succ, Nat.zero_add, Nat.add_zero, Nat.reduceAdd, Nat.reduceMul, List.set_cons_zero, List.set_cons_succ, keep, List.contains_cons, List.contains_nil])
    | (refine wCall rfl (by (first | (simp only [awanted, gd_zero, gd_succ, beq_self_eq_true, beq_true, beq_false, Bool.not_true, Bool.not_false, *]; done) | rfl)) rfl (Sp.mono (c19 _ _ (hn1.more2 (by assumption))) ?_); rintro v h4 ⟨rfl, hn4⟩; have hg4 := hn4.1 _ _ set_same; dsimp only [putT, ev, Int.toNat_zero, Nat.sub_zero, Int.toNat_natCast,  gd_zero, gd_succ, Nat.zero_add, Nat.add_zero, Nat.reduceAdd, Nat.reduceMul, List.set_cons_zero, List.set_cons_succ, keep, List.contains_cons, List.contains_nil])
    | (refine wCall rfl (by (first | (simp only [awanted, gd_zero, gd_succ, beq_self_eq_true, beq_true, beq_false, Bool.not_true, Bool.not_false, *]; done) | rfl)) rfl (Sp.mono (c16 _ _ hn4) ?_); rintro v h5 ⟨rfl, hn5⟩; dsimp only [putT, ev, Int.toNat_zero, Nat.sub_zero, Int.toNat_natCast,  gd_zero, gd_succ, Nat.zero_add, Nat.add_zero, Nat.reduceAdd, Nat.reduceMul, List.set_cons_zero, List.set_cons_succ, keep, List.contains_cons, List.contains_nil])
    | (refine cSeq ?_) | (refine cNorm ?_) | (refine cRet ?_) | (refine cExit ?_) | (refine W_reg rfl ?_) | (refine W_block ?_) | (refine W_ret ?_) | (refine W_skip ?_) | (refine W_exit ?_) | (refine bNorm ?_) | (refine bRet ?_) | (refine bExit ?_) | (refine bExitN rfl ?_)
    | (refine cMask' (by simp only [keep, List.contains_cons, List.contains_nil, Nat.reduceBEq, Bool.or_true, Bool.true_or, Bool.or_false, Bool.false_or, if_true, if_false, Bool.false_eq_true, beq_self_eq_true, Nat.zero_add, Nat.reduceAdd, eq_self]; exact rfl) ?_)
    | (refine cT (by (first | (simp only [go_sem, *]; (first | done | exact rfl)) | rfl)) ?_) | (refine cF (by (first | (simp only [go_sem, *]; (first | done | exact rfl)) | rfl)) ?_)
    | (refine rRet (by (first | (simp only [go_sem, *]; (first | done | exact rfl)) | rfl)) ?_) | (refine rNorm (by (first | (simp only [go_sem, *]; (first | done | exact rfl)) | rfl)) ?_)
    | (refine wSplit _ rfl (by (first | (simp only [go_sem, *]; (first | done | exact rfl)) | rfl)) ?_ ?_ <;> intro hb <;> (try simp only [beq_false, beq_true, Bool.not_true, Bool.not_false, Bool.not_eq_true', Bool.not_eq_false', decide_eq_false_iff_not, decide_eq_true_eq, bne_iff_ne, beq_iff_eq, Bool.true_eq, Bool.false_eq, Bool.not_not, Bool.and_eq_true, Bool.or_eq_true, Bool.bne_true, Bool.bne_false, bne_eq_false_iff_eq, beq_eq_false_iff_ne, ne_eq] at hb))
    | (refine W_cond _ (by (first | (simp only [go_sem, *]; (first | done | exact rfl)) | rfl)) ?_ ?_ <;> intro hb <;> (try simp only [beq_false, beq_true, Bool.not_true, Bool.not_false, Bool.not_eq_true', Bool.not_eq_false', decide_eq_false_iff_not, decide_eq_true_eq, bne_iff_ne, beq_iff_eq, Bool.true_eq, Bool.false_eq, Bool.not_not, Bool.and_eq_true, Bool.or_eq_true, Bool.bne_true, Bool.bne_false, bne_eq_false_iff_eq, beq_eq_false_iff_ne, ne_eq] at hb)))
  all_goals exact ⟨rfl, hn5.less (hn1.1.no (by assumption))⟩
theorem sp18f (h0 : AH) (p : List Nat) (k : Int) (N : Int) (L : List Pk) (C : List Int) (h : AH) (hn : Nt h0 p h N L C) (hk : ¬ (0 ≤ k ∧ k < L.length)) : Sp T 18 [.ptr p 0, .int .i64 k] h (fun v h' => v = .bool false ∧ Nt h0 p h' N L C) := by
  have c65 := sp65f p k N L C h hn.rd hk
  have c19 := fun (h1 : AH) (hn1 : Nt h0 p h1 N L C) => sp19f h0 p k N L C h1 hn1 hk
  have hu := Up.refl h
  clear hk
  refine Sp_of (fn := f18) rfl (show W T b18 [.ptr p 0, .int .i64 k, .tup [], .tup [], .tup [], .tup [], .tup [], .tup [], .tup [], .tup [], .tup [], .tup [], .tup [], .tup [], .tup [], .tup [], .tup [], .tup [], .tup [], .tup [], .tup [], .tup [], .tup [], .tup []] _ _ from ?_)
  unfold b18
  repeat' (first
    | (refine wNil ?_)
    | (refine wPure rfl (by (first | (simp only [go_sem, *]; (first | done | exact rfl)) | rfl)) rfl (by (first | (simp only [go_sem, *]; (first | done | exact rfl)) | rfl)) ?_; dsimp only [putT, ev, Int.toNat_zero, Nat.sub_zero, Int.toNat_natCast,  gd_zero, gd_succ, Nat.zero_add, Nat.add_zero, Nat.reduceAdd, Nat.reduceMul, List.set_cons_zero, List.set_cons_succ, keep, List.contains_cons, List.contains_nil])
    | (refine wMk rfl (by (first | (simp only [go_sem, *]; (first | done | exact rfl)) | rfl)) rfl ?_; intro id hid; have hid0 := hid; (try simp only [set_none_iff] at hid); have hz := hid; (repeat (replace hz := hz.2)); (first | have := Up.none hu hz | (have := Up.none (Up.trans hu (by (repeat' first | assumption | exact Up.refl _ | refine Up.new ?_ ?_))) hid0) | skip); (first | have := Up.none hu1 hz | (have := Up.none (Up.trans hu1 (by (repeat' first | assumption | exact Up.refl _ | refine Up.new ?_ ?_))) hid0) | skip); clear hid0; refine ⟨_, (by (first | (simp only [go_sem, *]; (first | done | exact rfl)) | rfl)), ?_⟩; dsimp only [putT, ev, Int.toNat_zero, Nat.sub_zero, Int.toNat_natCast,  gd_zero, gd_succ, Nat.zero_add, Nat.add_zero, Nat.reduceAdd, Nat.reduceMul, List.set_cons_zero, List.set_cons_succ, keep, List.contains_cons, List.contains_nil])
    | (refine wChk rfl (by (first | (simp only [go_sem, *]; (first | done | exact rfl)) | rfl)) rfl (by (first | (simp only [go_sem, *]; (first | done | exact rfl)) | rfl)) rfl ?_) | (refine wChkF rfl (by (first | (simp only [go_sem, *]; (first | done | exact rfl)) | rfl)) rfl ?_)
    | (refine wSkip rfl (by (first | (simp only [go_sem, *]; (first | done | exact rfl)) | rfl)) ?_; dsimp only [putT, ev, Int.toNat_zero, Nat.sub_zero, Int.toNat_natCast,  gd_zero, gd_succ, Nat.zero_add, Nat.add_zero, Nat.reduceAdd, Nat.reduceMul, List.set_cons_zero, List.set_cons_succ, keep, List.contains_cons, List.contains_nil])
    | (refine wCall rfl (by (first | (simp only [awanted, gd_zero, gd_succ, beq_self_eq_true, beq_true, beq_false, Bool.not_true, Bool.not_false, *]; done) | rfl)) rfl (Sp.mono (c65) ?_); rintro v h1 ⟨rfl, hu1⟩; dsimp only [putT, ev, Int.toNat_zero, Nat.sub_zero, Int.toNat_natCast,  gd_zero, gd_succ, Nat.zero_add, Nat.add_zero, Nat.reduceAdd, Nat.reduceMul, List.set_cons_zero, List.set_cons_succ, keep, List.contains_cons, List.contains_nil])
    | (refine wCall rfl (by (first | (simp only [awanted, gd_zero, gd_succ, beq_self_eq_true, beq_true, beq_false, Bool.not_true, Bool.not_false, *]; done) | rfl)) rfl (Sp.mono (c19 _ (hn.up (by repeat' (first | assumption | exact Up.refl _ | refine Up.new ?_ ?_)))) ?_); rintro v h2 ⟨rfl, hn2⟩; dsimp only [putT, ev, Int.toNat_zero, Nat.sub_zero, Int.toNat_natCast,  gd_zero, gd_succ, Nat.zero_add, Nat.add_zero, Nat.reduceAdd, Nat.reduceMul, List.set_cons_zero, List.set_cons_succ, keep, List.contains_cons, List.contains_nil])
    | (refine cSeq ?_) | (refine cNorm ?_) | (refine cRet ?_) | (refine cExit ?_) | (refine W_reg rfl ?_) | (refine W_block ?_) | (refine W_ret ?_) | (refine W_skip ?_) | (refine W_exit ?_) | (refine bNorm ?_) | (refine bRet ?_) | (refine bExit ?_) | (refine bExitN rfl ?_)
    | (refine cMask' (by simp only [keep, List.contains_cons, List.contains_nil, Nat.reduceBEq, Bool.or_true, Bool.true_or, Bool.or_false, Bool.false_or, if_true, if_false, Bool.false_eq_true, beq_self_eq_true, Nat.zero_add, Nat.reduceAdd, eq_self]; exact rfl) ?_)
    | (refine cT (by (first | (simp only [go_sem, *]; (first | done | exact rfl)) | rfl)) ?_) | (refine cF (by (first | (simp only [go_sem, *]; (first | done | exact rfl)) | rfl)) ?_)
    | (refine rRet (by (first | (simp only [go_sem, *]; (first | done | exact rfl)) | rfl)) ?_) | (refine rNorm (by (first | (simp only [go_sem, *]; (first | done | exact rfl)) | rfl)) ?_)
    | (refine wSplit _ rfl (by (first | (simp only [go_sem, *]; (first | done | exact rfl)) | rfl)) ?_ ?_ <;> intro hb <;> (try simp only [beq_false, beq_true, Bool.not_true, Bool.not_false, Bool.not_eq_true', Bool.not_eq_false', decide_eq_false_iff_not, decide_eq_true_eq, bne_iff_ne, beq_iff_eq, Bool.true_eq, Bool.false_eq, Bool.not_not, Bool.and_eq_true, Bool.or_eq_true, Bool.bne_true, Bool.bne_false, bne_eq_false_iff_eq, beq_eq_false_iff_ne, ne_eq] at hb))
    | (refine W_cond _ (by (first | (simp only [go_sem, *]; (first | done | exact rfl)) | rfl)) ?_ ?_ <;> intro hb <;> (try simp only [beq_false, beq_true, Bool.not_true, Bool.not_false, Bool.not_eq_true', Bool.not_eq_false', decide_eq_false_iff_not, decide_eq_true_eq, bne_iff_ne, beq_iff_eq, Bool.true_eq, Bool.false_eq, Bool.not_not, Bool.and_eq_true, Bool.or_eq_true, Bool.bne_true, Bool.bne_false, bne_eq_false_iff_eq, beq_eq_false_iff_ne, ne_eq] at hb)))
  all_goals exact ⟨rfl, hn2⟩

theorem Nt.poke {h0 h : AH} {p x : List Nat} {N : Int} {L : List Pk} {C : List Int} {c b : Blk} (hn : Nt h0 p h N L C) (hx : h0 x = some c) : Nt (h0.set x (some b)) p (h.set x (some b)) N L C := by
  obtain ⟨g1, g2, S, g3, g4⟩ := hn
  have hpx : p ≠ x := fun e => by rw [e, hx] at g2; cases g2
  refine ⟨g1.both, by rw [set_ne hpx]; exact g2, S, by rw [set_ne hpx]; exact g3, ?_⟩
  rcases g4 with g4 | ⟨j, rest, k1, k2, k3, k4⟩
  · exact .inl g4
  · have hjx : j ≠ x := fun e => by rw [e, hx] at k1; cases k1
    exact .inr ⟨j, rest, by rw [set_ne hjx]; exact k1, k2, by rw [set_ne hjx]; exact k3, k4⟩
/-- Is it cut? -/
def cutBit (C : List Int) (a b : Nat) : Bool := ((C.getD a 0).toNat / 2 ^ b) % 2 == 1
/-- Bits that may be. -/
def okC (C : List Int) : Prop := C.length = 12 ∧ ∀ c ∈ C, 0 ≤ c ∧ c ≤ 4294967295
theorem and1 (d : Nat) (hd : d < 4294967296) : absBits .and .u32 (d : Int) 1 = some (((d % 2 : Nat)) : Int) := by
  have e : (BitVec.ofInt IntKind.u32.bits (d : Int) &&& BitVec.ofInt IntKind.u32.bits 1).toNat = d % 2 := by
    rw [BitVec.toNat_and]
    have e1 : (BitVec.ofInt IntKind.u32.bits (d : Int)).toNat = d := by
      rw [BitVec.toNat_ofInt]; show ((d : Int) % ((2 ^ 32 : Nat) : Int)).toNat = d
      rw [Int.emod_eq_of_lt (by omega) (by omega)]; rfl
    have e2 : (BitVec.ofInt IntKind.u32.bits 1).toNat = 1 := rfl
    rw [e1, e2, Nat.and_one_is_mod]
  show some (IntKind.u32.wrap (((BitVec.ofInt IntKind.u32.bits (d : Int) &&& BitVec.ofInt IntKind.u32.bits 1).toNat : Nat) : Int)) = _
  rw [e, wrapU32 (by omega) (by omega)]
/-- IsCut -/
theorem sp68 (p : List Nat) (own : Bool) (a b N : Int) (S : AV) (C : List Int) (h : AH) (hp : h p = some ⟨own, .int .i64 N :: S :: u32s C⟩) (hN : N ≤ 12) (hC : okC C) : Sp T 68 [.ptr p 0, .int .i64 a, .int .i64 b] h (fun v h' => v = .bool (isW N a b && cutBit C a.toNat b.toNat) ∧ h' = h) := by
  have c64 := sp64 a b N p own (S :: u32s C) h hp
  cases hw : isW N a b with
  | false =>
    rw [hw] at c64
    rw [Bool.false_and]
    refine Sp_of (fn := f68) rfl (show W T b68 [.ptr p 0, .int .i64 a, .int .i64 b, .tup [], .tup [], .tup [], .tup [], .tup [], .tup [], .tup [], .tup [], .tup [], .tup [], .tup [], .tup [], .tup [], .tup [], .tup [], .tup [], .tup [], .tup [], .tup [], .tup []] _ _ from ?_)
    unfold b68
    repeat' (first
      | (refine wNil ?_)
      | (refine wPure rfl (by (first | (simp only [go_sem, *]; (first | done | exact rfl)) | rfl)) rfl (by (first | (simp only [go_sem, *]; (first | done | exact rfl)) | rfl)) ?_; dsimp only [putT, ev, Int.toNat_zero, Nat.sub_zero, Int.toNat_natCast,  gd_zero, gd_succ, Nat.zero_add, Nat.add_zero, Nat.reduceAdd, Nat.reduceMul, List.set_cons_zero, List.set_cons_succ, keep, List.contains_cons, List.contains_nil])
      | (refine wMk rfl (by (first | (simp only [go_sem, *]; (first | done | exact rfl)) | rfl)) rfl ?_; intro id hid; (try simp only [set_none_iff] at hid); refine ⟨_, (by (first | (simp only [go_sem, *]; (first | done | exact rfl)) | rfl)), ?_⟩; dsimp only [putT, ev, Int.toNat_zero, Nat.sub_zero, Int.toNat_natCast,  gd_zero, gd_succ, Nat.zero_add, Nat.add_zero, Nat.reduceAdd, Nat.reduceMul, List.set_cons_zero, List.set_cons_succ, keep, List.contains_cons, List.contains_nil])
      | (refine wChk rfl (by (first | (simp only [go_sem, *]; (first | done | exact rfl)) | rfl)) rfl (by (first | (simp only [go_sem, *]; (first | done | exact rfl)) | rfl)) rfl ?_) | (refine wChkF rfl (by (first | (simp only [go_sem, *]; (first | done | exact rfl)) | rfl)) rfl ?_)
      | (refine wSkip rfl (by (first | (simp only [go_sem, *]; (first | done | exact rfl)) | rfl)) ?_; dsimp only [putT, ev, Int.toNat_zero, Nat.sub_zero, Int.toNat_natCast,  gd_zero, gd_succ, Nat.zero_add, Nat.add_zero, Nat.reduceAdd, Nat.reduceMul, List.set_cons_zero, List.set_cons_succ, keep, List.contains_cons, List.contains_nil])
      | (refine wCall rfl (by (first | (simp only [awanted, gd_zero, gd_succ, beq_self_eq_true, beq_true, beq_false, Bool.not_true, Bool.not_false, *]; done) | rfl)) rfl (Sp.mono (c64) ?_); rintro v h' ⟨rfl, hx⟩; cases hx; dsimp only [putT, ev, Int.toNat_zero, Nat.sub_zero, Int.toNat_natCast,  gd_zero, gd_succ, Nat.zero_add, Nat.add_zero, Nat.reduceAdd, Nat.reduceMul, List.set_cons_zero, List.set_cons_succ, keep, List.contains_cons, List.contains_nil])
      | (refine cSeq ?_) | (refine cNorm ?_) | (refine cRet ?_) | (refine cExit ?_) | (refine W_reg rfl ?_) | (refine W_block ?_) | (refine W_ret ?_) | (refine W_skip ?_) | (refine W_exit ?_) | (refine bNorm ?_) | (refine bRet ?_) | (refine bExit ?_) | (refine bExitN rfl ?_)
      | (refine cMask' (by simp only [keep, List.contains_cons, List.contains_nil, Nat.reduceBEq, Bool.or_true, Bool.true_or, Bool.or_false, Bool.false_or, if_true, if_false, Bool.false_eq_true, beq_self_eq_true, Nat.zero_add, Nat.reduceAdd, eq_self]; exact rfl) ?_)
      | (refine cT (by (first | (simp only [go_sem, *]; (first | done | exact rfl)) | rfl)) ?_) | (refine cF (by (first | (simp only [go_sem, *]; (first | done | exact rfl)) | rfl)) ?_)
      | (refine rRet (by (first | (simp only [go_sem, *]; (first | done | exact rfl)) | rfl)) ?_) | (refine rNorm (by (first | (simp only [go_sem, *]; (first | done | exact rfl)) | rfl)) ?_)
      | (refine wSplit _ rfl (by (first | (simp only [go_sem, *]; (first | done | exact rfl)) | rfl)) ?_ ?_ <;> intro hb <;> (try simp only [beq_false, beq_true, Bool.not_true, Bool.not_false, Bool.not_eq_true', Bool.not_eq_false', decide_eq_false_iff_not, decide_eq_true_eq, bne_iff_ne, beq_iff_eq, Bool.true_eq, Bool.false_eq, Bool.not_not, Bool.and_eq_true, Bool.or_eq_true, Bool.bne_true, Bool.bne_false, bne_eq_false_iff_eq, beq_eq_false_iff_ne, ne_eq] at hb))
      | (refine W_cond _ (by (first | (simp only [go_sem, *]; (first | done | exact rfl)) | rfl)) ?_ ?_ <;> intro hb <;> (try simp only [beq_false, beq_true, Bool.not_true, Bool.not_false, Bool.not_eq_true', Bool.not_eq_false', decide_eq_false_iff_not, decide_eq_true_eq, bne_iff_ne, beq_iff_eq, Bool.true_eq, Bool.false_eq, Bool.not_not, Bool.and_eq_true, Bool.or_eq_true, Bool.bne_true, Bool.bne_false, bne_eq_false_iff_eq, beq_eq_false_iff_ne, ne_eq] at hb)))
    all_goals exact ⟨rfl, rfl⟩
  | true =>
    rw [hw] at c64
    rw [Bool.true_and]
    have hw' := hw
    simp only [isW, decide_eq_true_eq] at hw'
    obtain ⟨a1, a2, a3, a4, a5⟩ := hw'
    obtain ⟨A, rfl⟩ : ∃ A : Nat, a = A := ⟨a.toNat, by omega⟩
    obtain ⟨B, rfl⟩ : ∃ B : Nat, b = B := ⟨b.toNat, by omega⟩
    have hA : A < C.length := by rw [hC.1]; omega
    have hc := hC.2 _ (List.getElem_mem hA)
    have hgd : C.getD A 0 = C[A] := by rw [List.getD_eq_getElem?_getD, List.getElem?_eq_getElem hA]; rfl
    obtain ⟨n, hnc⟩ : ∃ n : Nat, C[A] = (n : Int) := ⟨C[A].toNat, by omega⟩
    have hcell : (AV.int .i64 N :: S :: u32s C)[2 + A]? = some (.int .u32 (n : Int)) := by
      rw [Nat.add_comm, List.getElem?_cons_succ, List.getElem?_cons_succ, u32s, List.getElem?_map, List.getElem?_eq_getElem hA, hnc]; rfl
    have b1 : ¬ (B : Int) < 0 := by omega
    have b2 : (A : Int) < ((12 : Nat) : Int) := by omega
    have b3 : Int.fdiv (n : Int) (2 ^ min B 32) = ((n / 2 ^ B : Nat) : Int) := by
      rw [Nat.min_eq_left (by omega), Int.fdiv_eq_ediv_of_nonneg _ (by exact Int.le_of_lt (Int.pow_pos (by decide)))]
      norm_cast
    have hn32 : n < 4294967296 := by omega
    have b4 := and1 (n / 2 ^ B) (Nat.lt_of_le_of_lt (Nat.div_le_self _ _) hn32)
    have b5 : (((n / 2 ^ B % 2 : Nat) : Int) == 1) = cutBit C (A : Int).toNat (B : Int).toNat := by
      unfold cutBit
      rw [Int.toNat_natCast, Int.toNat_natCast, hgd, hnc, Int.toNat_natCast]
      rcases Nat.mod_two_eq_zero_or_one (n / 2 ^ B) with e | e <;> rw [e] <;> rfl
    rw [← b5]
    clear hw b5 hgd hnc hc hn32
    refine Sp_of (fn := f68) rfl (show W T b68 [.ptr p 0, .int .i64 (A : Int), .int .i64 (B : Int), .tup [], .tup [], .tup [], .tup [], .tup [], .tup [], .tup [], .tup [], .tup [], .tup [], .tup [], .tup [], .tup [], .tup [], .tup [], .tup [], .tup [], .tup [], .tup [], .tup []] _ _ from ?_)
    unfold b68
    repeat' (first
      | (refine wNil ?_)
      | (refine wPure rfl (by (first | (simp only [go_sem, *]; (first | done | exact rfl)) | rfl)) rfl (by (first | (simp only [go_sem, *]; (first | done | exact rfl)) | rfl)) ?_; dsimp only [putT, ev, Int.toNat_zero, Nat.sub_zero, Int.toNat_natCast,  gd_zero, gd_succ, Nat.zero_add, Nat.add_zero, Nat.reduceAdd, Nat.reduceMul, List.set_cons_zero, List.set_cons_succ, keep, List.contains_cons, List.contains_nil])
      | (refine wMk rfl (by (first | (simp only [go_sem, *]; (first | done | exact rfl)) | rfl)) rfl ?_; intro id hid; (try simp only [set_none_iff] at hid); refine ⟨_, (by (first | (simp only [go_sem, *]; (first | done | exact rfl)) | rfl)), ?_⟩; dsimp only [putT, ev, Int.toNat_zero, Nat.sub_zero, Int.toNat_natCast,  gd_zero, gd_succ, Nat.zero_add, Nat.add_zero, Nat.reduceAdd, Nat.reduceMul, List.set_cons_zero, List.set_cons_succ, keep, List.contains_cons, List.contains_nil])
      | (refine wChk rfl (by (first | (simp only [go_sem, *]; (first | done | exact rfl)) | rfl)) rfl (by (first | (simp only [go_sem, *]; (first | done | exact rfl)) | rfl)) rfl ?_) | (refine wChkF rfl (by (first | (simp only [go_sem, *]; (first | done | exact rfl)) | rfl)) rfl ?_)
      | (refine wSkip rfl (by (first | (simp only [go_sem, *]; (first | done | exact rfl)) | rfl)) ?_; dsimp only [putT, ev, Int.toNat_zero, Nat.sub_zero, Int.toNat_natCast,  gd_zero, gd_succ, Nat.zero_add, Nat.add_zero, Nat.reduceAdd, Nat.reduceMul, List.set_cons_zero, List.set_cons_succ, keep, List.contains_cons, List.contains_nil])
      | (refine wCall rfl (by (first | (simp only [awanted, gd_zero, gd_succ, beq_self_eq_true, beq_true, beq_false, Bool.not_true, Bool.not_false, *]; done) | rfl)) rfl (Sp.mono (c64) ?_); rintro v h' ⟨rfl, hx⟩; cases hx; dsimp only [putT, ev, Int.toNat_zero, Nat.sub_zero, Int.toNat_natCast,  gd_zero, gd_succ, Nat.zero_add, Nat.add_zero, Nat.reduceAdd, Nat.reduceMul, List.set_cons_zero, List.set_cons_succ, keep, List.contains_cons, List.contains_nil])
      | (refine cSeq ?_) | (refine cNorm ?_) | (refine cRet ?_) | (refine cExit ?_) | (refine W_reg rfl ?_) | (refine W_block ?_) | (refine W_ret ?_) | (refine W_skip ?_) | (refine W_exit ?_) | (refine bNorm ?_) | (refine bRet ?_) | (refine bExit ?_) | (refine bExitN rfl ?_)
      | (refine cMask' (by simp only [keep, List.contains_cons, List.contains_nil, Nat.reduceBEq, Bool.or_true, Bool.true_or, Bool.or_false, Bool.false_or, if_true, if_false, Bool.false_eq_true, beq_self_eq_true, Nat.zero_add, Nat.reduceAdd, eq_self]; exact rfl) ?_)
      | (refine cT (by (first | (simp only [go_sem, *]; (first | done | exact rfl)) | rfl)) ?_) | (refine cF (by (first | (simp only [go_sem, *]; (first | done | exact rfl)) | rfl)) ?_)
      | (refine rRet (by (first | (simp only [go_sem, *]; (first | done | exact rfl)) | rfl)) ?_) | (refine rNorm (by (first | (simp only [go_sem, *]; (first | done | exact rfl)) | rfl)) ?_)
      | (refine wSplit _ rfl (by (first | (simp only [go_sem, *]; (first | done | exact rfl)) | rfl)) ?_ ?_ <;> intro hb <;> (try simp only [beq_false, beq_true, Bool.not_true, Bool.not_false, Bool.not_eq_true', Bool.not_eq_false', decide_eq_false_iff_not, decide_eq_true_eq, bne_iff_ne, beq_iff_eq, Bool.true_eq, Bool.false_eq, Bool.not_not, Bool.and_eq_true, Bool.or_eq_true, Bool.bne_true, Bool.bne_false, bne_eq_false_iff_eq, beq_eq_false_iff_ne, ne_eq] at hb))
      | (refine W_cond _ (by (first | (simp only [go_sem, *]; (first | done | exact rfl)) | rfl)) ?_ ?_ <;> intro hb <;> (try simp only [beq_false, beq_true, Bool.not_true, Bool.not_false, Bool.not_eq_true', Bool.not_eq_false', decide_eq_false_iff_not, decide_eq_true_eq, bne_iff_ne, beq_iff_eq, Bool.true_eq, Bool.false_eq, Bool.not_not, Bool.and_eq_true, Bool.or_eq_true, Bool.bne_true, Bool.bne_false, bne_eq_false_iff_eq, beq_eq_false_iff_ne, ne_eq] at hb)))
    all_goals exact ⟨rfl, rfl⟩
end Go.Proofs.YtdehmopdlbdmfaaI
