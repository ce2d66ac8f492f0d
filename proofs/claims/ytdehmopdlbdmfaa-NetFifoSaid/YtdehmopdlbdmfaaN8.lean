import Derived.Test.YtdehmopdlbdmfaaN7
set_option linter.unusedVariables false
set_option linter.unusedSimpArgs false
set_option maxRecDepth 100000
set_option maxHeartbeats 4000000
namespace Go.Proofs.YtdehmopdlbdmfaaI
open Go Go.Proofs.YtdehmopdlbdmfaaM
attribute [local go_sem] aop ev fg_slc fg_slk fg_ptr fg_bool fg_int fg_str fg_iface fg_func fg_agg fg_tup fg_nils fg_nilp fg_nilI fg_nilF fg_und aboundsK alen_nils alen_slc alen_slk aslice_nils aslice_slc aslice_slk awanted abin aun aint aeqn aeqc aeqs apart abounds abnd amaxi amaxiGo cells_agg cells_slc cells_slk cells_ptr cells_bool cells_int cells_str cells_iface cells_func cells_tup cells_nils cells_nilp cells_nilI cells_nilF cells_und sc_slc sc_slk sc_ptr sc_bool sc_int sc_str sc_iface sc_func sc_nils sc_nilp sc_nilI sc_nilF gd_zero gd_succ List.all_cons List.all_nil Bool.and_self Bool.and_true Bool.true_and List.length_cons List.length_nil Option.map_some Option.some.injEq cell_same cell_ne cell_ne' cellsAt_same cellsAt_ne cellsAt_ne' put_same put_of set_same set_ne set_ne' List.getElem?_cons_zero List.getElem?_cons_succ if_true if_false and_self and_true true_and ne_eq not_true_eq_false not_false_eq_true decide_true decide_false Bool.false_eq_true Bool.true_eq_false beq_self_eq_true bne_self_eq_false beq_true beq_false Bool.not_true Bool.not_false List.map_cons List.map_nil putL List.set_cons_zero List.set_cons_succ afill Nat.zero_le Nat.le_refl Nat.zero_add Nat.add_zero List.drop_zero List.drop_succ_cons List.take_zero List.take_succ_cons Bool.not_eq_true Bool.not_eq_false decide_eq_true_eq decide_eq_false_iff_not Int.toNat_zero Nat.sub_zero Int.toNat_natCast Bool.bne_true Bool.bne_false AH.cell AH.cellsAt AH.put Nat.mul_one Nat.one_mul Int.natCast_nonneg List.length_set bne_self_eq_false amaxi amaxiGo azeros List.cons_append List.nil_append List.append_nil

theorem ba_beq (s : ByteArray) : (s == s) = true := by
  cases s with
  | mk d => exact beq_self_eq_true (α := Array UInt8) d
def rest4 : ICode := (.seq (.seq (.reg [(0, false), (1, false), (2, false)] r4_13)
 (.seq (.block 2 (.loop (.seq (.mask [5, 55, 56, 57]) (.seq (.reg [(0, false)] r4_14)
 (.seq (.cond (.t 58) .skip
 (.exit 2))
 (.seq (.seq (.block 3 (.seq (.reg [(0, false), (1, false), (2, false), (3, false)] r4_15)
 (.seq (.reg [(0, false), (1, false), (2, false), (3, false), (4, false), (5, false), (6, false), (7, false)] r4_16)
 (.seq (.reg [(0, false), (1, false), (2, false), (3, false), (4, false), (5, false), (6, false)] r4_17)
 (.cond (.t 72) (.seq (.reg [(0, false)] r4_18)
 .ret)
 .skip))))) (.mask [5, 55, 56, 57]))
 (.reg [(0, false), (1, false)] r4_19))))))) (.mask [5])))
 (.seq (.reg [(0, false), (1, false), (2, false), (3, false), (4, false), (5, false), (6, false), (7, false)] r4_20)
 (.seq (.reg [(0, false), (1, false), (2, false), (3, false), (4, false), (5, false), (6, false), (7, false), (8, false), (9, false), (10, false), (11, false), (12, false), (13, false), (14, false), (15, false), (16, false), (17, false), (18, false), (19, false), (20, false), (21, false), (22, false)] r4_21)
 .ret)))
theorem rest4_ok (B B1 : AH) (p : List Nat) (N : Int) (L : List Pk) (S6 : AV) (h : AH) (hn0 : Nt B1 p h N L Z12) (hS : St B B1 S6 L) (hN : N ≤ 12) (hl : L.length ≤ 100) : W T rest4 [.und, .und, .und, .und, .und, .ptr p 0, S6, .und, .und, .und, .und, .und, .und, .und, .und, .und, .und, .und, .und, .und, .und, .und, .und, .und, .und, .und, .und, .und, .und, .und, .und, .und, .und, .und, .und, .und, .und, .und, .und, .und, .und, .und, .und, .und, .und, .und, .und, .und, .und, .und, .und, .und, .und, .und, .und, .und, .und, .und, .und, .und, .und, .und, .und, .und, .und, .und, .und, .und, .und, .und, .und, .und, .und, .und, .und, .und, .und, .und, .und, .und, .und, .und, .und, .und, .und, .und, .und, .und, .und, .und, .und, .und, .und, .und, .und, .und, .und, .und, .und, .und, .und] h (Rets f4 fun v _ => v = .bool true) := by
  have hlen := hS.len
  unfold rest4
  repeat' (first
    | (refine wNil ?_)
    | (refine wPure rfl (by (first | (simp only [go_sem, *]; (first | done | exact rfl)) | rfl)) rfl (by (first | (simp only [go_sem, *]; (first | done | exact rfl)) | rfl)) ?_; dsimp only [putT, ev, Int.toNat_zero, Nat.sub_zero, Int.toNat_natCast,  gd_zero, gd_succ, Nat.zero_add, Nat.add_zero, Nat.reduceAdd, Nat.reduceMul, List.set_cons_zero, List.set_cons_succ, keep, List.contains_cons, List.contains_nil])
    | (refine wMk rfl (by (first | (simp only [go_sem, *]; (first | done | exact rfl)) | rfl)) rfl ?_; intro id hid; (try simp only [set_none_iff] at hid); refine ⟨_, (by (first | (simp only [go_sem, *]; (first | done | exact rfl)) | rfl)), ?_⟩; dsimp only [putT, ev, Int.toNat_zero, Nat.sub_zero, Int.toNat_natCast,  gd_zero, gd_succ, Nat.zero_add, Nat.add_zero, Nat.reduceAdd, Nat.reduceMul, List.set_cons_zero, List.set_cons_succ, keep, List.contains_cons, List.contains_nil])
    | (refine wChk rfl (by (first | (simp only [go_sem, *]; (first | done | exact rfl)) | rfl)) rfl (by (first | (simp only [go_sem, *]; (first | done | exact rfl)) | rfl)) rfl ?_) | (refine wChkF rfl (by (first | (simp only [go_sem, *]; (first | done | exact rfl)) | rfl)) rfl ?_)
    | (refine wSkip rfl (by (first | (simp only [go_sem, *]; (first | done | exact rfl)) | rfl)) ?_; dsimp only [putT, ev, Int.toNat_zero, Nat.sub_zero, Int.toNat_natCast,  gd_zero, gd_succ, Nat.zero_add, Nat.add_zero, Nat.reduceAdd, Nat.reduceMul, List.set_cons_zero, List.set_cons_succ, keep, List.contains_cons, List.contains_nil])
    | (refine cSeq ?_) | (refine cNorm ?_) | (refine cRet ?_) | (refine cExit ?_) | (refine W_reg rfl ?_) | (refine W_block ?_) | (refine W_ret ?_) | (refine W_skip ?_) | (refine W_exit ?_) | (refine bNorm ?_) | (refine bRet ?_) | (refine bExit ?_) | (refine bExitN rfl ?_)
    | (refine cMask' (by simp only [keep, List.contains_cons, List.contains_nil, Nat.reduceBEq, Bool.or_true, Bool.true_or, Bool.or_false, Bool.false_or, if_true, if_false, Bool.false_eq_true, beq_self_eq_true, Nat.zero_add, Nat.reduceAdd, eq_self]; exact rfl) ?_)
    | (refine cT (by (first | (simp only [go_sem, *]; (first | done | exact rfl)) | rfl)) ?_) | (refine cF (by (first | (simp only [go_sem, *]; (first | done | exact rfl)) | rfl)) ?_)
    | (refine rRet (by (first | (simp only [go_sem, *]; (first | done | exact rfl)) | rfl)) ?_) | (refine rNorm (by (first | (simp only [go_sem, *]; (first | done | exact rfl)) | rfl)) ?_)
    | (refine wSplit _ rfl (by (first | (simp only [go_sem, *]; (first | done | exact rfl)) | rfl)) ?_ ?_ <;> intro hb <;> (try simp only [beq_false, beq_true, Bool.not_true, Bool.not_false, Bool.not_eq_true', Bool.not_eq_false', decide_eq_false_iff_not, decide_eq_true_eq, bne_iff_ne, beq_iff_eq, Bool.true_eq, Bool.false_eq, Bool.not_not, Bool.and_eq_true, Bool.or_eq_true, Bool.bne_true, Bool.bne_false, bne_eq_false_iff_eq, beq_eq_false_iff_ne, ne_eq] at hb))
    | (refine W_cond _ (by (first | (simp only [go_sem, *]; (first | done | exact rfl)) | rfl)) ?_ ?_ <;> intro hb <;> (try simp only [beq_false, beq_true, Bool.not_true, Bool.not_false, Bool.not_eq_true', Bool.not_eq_false', decide_eq_false_iff_not, decide_eq_true_eq, bne_iff_ne, beq_iff_eq, Bool.true_eq, Bool.false_eq, Bool.not_not, Bool.and_eq_true, Bool.or_eq_true, Bool.bne_true, Bool.bne_false, bne_eq_false_iff_eq, beq_eq_false_iff_ne, ne_eq] at hb)))
  refine W_loop (fun m tm h' => ∃ k, k + m = L.length ∧ Nt B1 p h' N (L.drop k) Z12 ∧ keep [5, 55, 56, 57] 0 tm = [.und, .und, .und, .und, .und, .ptr p 0, .und, .und, .und, .und, .und, .und, .und, .und, .und, .und, .und, .und, .und, .und, .und, .und, .und, .und, .und, .und, .und, .und, .und, .und, .und, .und, .und, .und, .und, .und, .und, .und, .und, .und, .und, .und, .und, .und, .und, .und, .und, .und, .und, .und, .und, .und, .und, .und, .und, S6, .int .i64 (L.length : Int), .int .i64 (k : Int), .und, .und, .und, .und, .und, .und, .und, .und, .und, .und, .und, .und, .und, .und, .und, .und, .und, .und, .und, .und, .und, .und, .und, .und, .und, .und, .und, .und, .und, .und, .und, .und, .und, .und, .und, .und, .und, .und, .und, .und, .und, .und, .und]) L.length ⟨0, Nat.zero_add _, by rw [List.drop_zero]; exact hn0, by simp only [keep, List.contains_cons, List.contains_nil, Nat.reduceBEq, Bool.or_true, Bool.true_or, Bool.or_false, Bool.false_or, if_true, if_false, Bool.false_eq_true, beq_self_eq_true, Nat.zero_add, Nat.reduceAdd, eq_self]; rfl⟩ ?_
  clear hn0 hlen
  rintro m tm h' ⟨k, hk, hn, htm⟩
  refine cSeq (cMask (cNorm ?_))
  rw [htm]; clear htm
  by_cases hkl : k < L.length
  · have d1 : (k : Int) < (L.length : Int) := by omega
    rcases hS with ⟨rfl, rfl⟩ | ⟨j, j0, rfl, jB⟩
    · simp at hkl
    have hj := hn.1 _ _ jB
    obtain ⟨q, hq⟩ : ∃ q, L[k]? = some q := ⟨_, List.getElem?_eq_getElem hkl⟩
    obtain ⟨f1, f2⟩ := flat_get e3z hq []
    rw [List.append_nil] at f1 f2
    simp only [e3] at f2
    have w1 : IntKind.i64.wrap ((k : Int) + 1) = ((k + 1 : Nat) : Int) := by rw [wrap64 (by omega) (by omega)]; rfl
    have hd0 : (L.drop k)[0]? = some q := by rw [List.getElem?_drop, Nat.add_zero]; exact hq
    have hde : (L.drop k).eraseIdx 0 = L.drop (k + 1) := by rw [List.eraseIdx_zero, List.tail_drop]
    have c22 : ∀ (B2 h1 : AH), Nt B2 p h1 N (L.drop k) Z12 → Sp T 22 [.ptr p 0, .int .i64 0] h1 (fun v h2 => v = .tup [.agg (e3 q), .bool true] ∧ Nt B2 p h2 N (L.drop (k + 1)) Z12) := fun B2 h1 hn1 => by
      have c := sp22 B2 p 0 q N (L.drop k) Z12 h1 hn1 hd0 (by rw [List.length_drop]; omega) hN okZ
      rw [cutZ, Bool.and_false, hde] at c
      exact c
    simp only [e3] at c22
    have hqq := ba_beq q.2.2
    clear hde hd0 hq
    repeat' (first
      | (refine wNil ?_)
      | (refine wPure rfl (by (first | (simp only [go_sem, *]; (first | done | exact rfl)) | rfl)) rfl (by (first | (simp only [go_sem, *]; (first | done | exact rfl)) | rfl)) ?_; dsimp only [putT, ev, Int.toNat_zero, Nat.sub_zero, Int.toNat_natCast,  gd_zero, gd_succ, Nat.zero_add, Nat.add_zero, Nat.reduceAdd, Nat.reduceMul, List.set_cons_zero, List.set_cons_succ, keep, List.contains_cons, List.contains_nil])
      | (refine wMk rfl (by (first | (simp only [go_sem, *]; (first | done | exact rfl)) | rfl)) rfl ?_; intro id hid; (try simp only [set_none_iff] at hid); have hz := hid; (repeat (replace hz := hz.2)); (try have := nei hj hz); (try have := nei hg10 hz); refine ⟨_, (by (first | (simp only [go_sem, *]; (first | done | exact rfl)) | rfl)), ?_⟩; dsimp only [putT, ev, Int.toNat_zero, Nat.sub_zero, Int.toNat_natCast,  gd_zero, gd_succ, Nat.zero_add, Nat.add_zero, Nat.reduceAdd, Nat.reduceMul, List.set_cons_zero, List.set_cons_succ, keep, List.contains_cons, List.contains_nil])
      | (refine wChk rfl (by (first | (simp only [go_sem, *]; (first | done | exact rfl)) | rfl)) rfl (by (first | (simp only [go_sem, *]; (first | done | exact rfl)) | rfl)) rfl ?_) | (refine wChkF rfl (by (first | (simp only [go_sem, *]; (first | done | exact rfl)) | rfl)) rfl ?_)
      | (refine wSkip rfl (by (first | (simp only [go_sem, *]; (first | done | exact rfl)) | rfl)) ?_; dsimp only [putT, ev, Int.toNat_zero, Nat.sub_zero, Int.toNat_natCast,  gd_zero, gd_succ, Nat.zero_add, Nat.add_zero, Nat.reduceAdd, Nat.reduceMul, List.set_cons_zero, List.set_cons_succ, keep, List.contains_cons, List.contains_nil])
      | (refine wCall rfl (by (first | (simp only [awanted, gd_zero, gd_succ, beq_self_eq_true, beq_true, beq_false, Bool.not_true, Bool.not_false, *]; done) | rfl)) rfl (Sp.mono (c22 _ _ (hn.more2 (by assumption))) ?_); rintro v h2 ⟨rfl, hn2⟩; have hg10 := hn2.1 _ _ set_same; have hn3 := hn2.less (hn.1.no (by assumption)); dsimp only [putT, ev, Int.toNat_zero, Nat.sub_zero, Int.toNat_natCast,  gd_zero, gd_succ, Nat.zero_add, Nat.add_zero, Nat.reduceAdd, Nat.reduceMul, List.set_cons_zero, List.set_cons_succ, keep, List.contains_cons, List.contains_nil])
      | (refine cSeq ?_) | (refine cNorm ?_) | (refine cRet ?_) | (refine cExit ?_) | (refine W_reg rfl ?_) | (refine W_block ?_) | (refine W_ret ?_) | (refine W_skip ?_) | (refine W_exit ?_) | (refine bNorm ?_) | (refine bRet ?_) | (refine bExit ?_) | (refine bExitN rfl ?_)
      | (refine cMask' (by simp only [keep, List.contains_cons, List.contains_nil, Nat.reduceBEq, Bool.or_true, Bool.true_or, Bool.or_false, Bool.false_or, if_true, if_false, Bool.false_eq_true, beq_self_eq_true, Nat.zero_add, Nat.reduceAdd, eq_self]; exact rfl) ?_)
      | (refine cT (by (first | (simp only [go_sem, *]; (first | done | exact rfl)) | rfl)) ?_) | (refine cF (by (first | (simp only [go_sem, *]; (first | done | exact rfl)) | rfl)) ?_)
      | (refine rRet (by (first | (simp only [go_sem, *]; (first | done | exact rfl)) | rfl)) ?_) | (refine rNorm (by (first | (simp only [go_sem, *]; (first | done | exact rfl)) | rfl)) ?_)
      | (refine wSplit _ rfl (by (first | (simp only [go_sem, *]; (first | done | exact rfl)) | rfl)) ?_ ?_ <;> intro hb <;> (try simp only [beq_false, beq_true, Bool.not_true, Bool.not_false, Bool.not_eq_true', Bool.not_eq_false', decide_eq_false_iff_not, decide_eq_true_eq, bne_iff_ne, beq_iff_eq, Bool.true_eq, Bool.false_eq, Bool.not_not, Bool.and_eq_true, Bool.or_eq_true, Bool.bne_true, Bool.bne_false, bne_eq_false_iff_eq, beq_eq_false_iff_ne, ne_eq] at hb))
      | (refine W_cond _ (by (first | (simp only [go_sem, *]; (first | done | exact rfl)) | rfl)) ?_ ?_ <;> intro hb <;> (try simp only [beq_false, beq_true, Bool.not_true, Bool.not_false, Bool.not_eq_true', Bool.not_eq_false', decide_eq_false_iff_not, decide_eq_true_eq, bne_iff_ne, beq_iff_eq, Bool.true_eq, Bool.false_eq, Bool.not_not, Bool.and_eq_true, Bool.or_eq_true, Bool.bne_true, Bool.bne_false, bne_eq_false_iff_eq, beq_eq_false_iff_ne, ne_eq] at hb)))
    all_goals exact ⟨m - 1, by omega, k + 1, by omega, by rw [set_set]; exact hn3.up (Up.new (Up.refl _) (by assumption)), by simp only [keep, List.contains_cons, List.contains_nil, Nat.reduceBEq, Bool.or_true, Bool.true_or, Bool.or_false, Bool.false_or, if_true, if_false, Bool.false_eq_true, beq_self_eq_true, Nat.zero_add, Nat.reduceAdd, eq_self]⟩
  · have d1 : ¬ (k : Int) < (L.length : Int) := by omega
    have hdn : L.drop k = [] := List.drop_of_length_le (by omega)
    rw [hdn] at hn
    have c22 := fun (h1 : AH) (hu : Up h' h1) => sp22f B1 p 0 N [] Z12 h1 (hn.up hu) (by simp)
    have c18 := fun (h1 : AH) (hn1 : Nt B1 p h1 N [] Z12) => sp18f B1 p 0 N [] Z12 h1 hn1 (by simp)
    have c19 := fun (h1 : AH) (hn1 : Nt B1 p h1 N [] Z12) => sp19f B1 p 0 N [] Z12 h1 hn1 (by simp)
    have c17 := fun (h1 : AH) (hn1 : Nt B1 p h1 N [] Z12) => sp17f B1 p 0 N [] Z12 h1 hn1 (by simp)
    repeat' (first
      | (refine wNil ?_)
      | (refine wPure rfl (by (first | (simp only [go_sem, *]; (first | done | exact rfl)) | rfl)) rfl (by (first | (simp only [go_sem, *]; (first | done | exact rfl)) | rfl)) ?_; dsimp only [putT, ev, Int.toNat_zero, Nat.sub_zero, Int.toNat_natCast,  gd_zero, gd_succ, Nat.zero_add, Nat.add_zero, Nat.reduceAdd, Nat.reduceMul, List.set_cons_zero, List.set_cons_succ, keep, List.contains_cons, List.contains_nil])
      | (refine wMk rfl (by (first | (simp only [go_sem, *]; (first | done | exact rfl)) | rfl)) rfl ?_; intro id hid; (try simp only [set_none_iff] at hid); refine ⟨_, (by (first | (simp only [go_sem, *]; (first | done | exact rfl)) | rfl)), ?_⟩; dsimp only [putT, ev, Int.toNat_zero, Nat.sub_zero, Int.toNat_natCast,  gd_zero, gd_succ, Nat.zero_add, Nat.add_zero, Nat.reduceAdd, Nat.reduceMul, List.set_cons_zero, List.set_cons_succ, keep, List.contains_cons, List.contains_nil])
      | (refine wChk rfl (by (first | (simp only [go_sem, *]; (first | done | exact rfl)) | rfl)) rfl (by (first | (simp only [go_sem, *]; (first | done | exact rfl)) | rfl)) rfl ?_) | (refine wChkF rfl (by (first | (simp only [go_sem, *]; (first | done | exact rfl)) | rfl)) rfl ?_)
      | (refine wSkip rfl (by (first | (simp only [go_sem, *]; (first | done | exact rfl)) | rfl)) ?_; dsimp only [putT, ev, Int.toNat_zero, Nat.sub_zero, Int.toNat_natCast,  gd_zero, gd_succ, Nat.zero_add, Nat.add_zero, Nat.reduceAdd, Nat.reduceMul, List.set_cons_zero, List.set_cons_succ, keep, List.contains_cons, List.contains_nil])
      | (refine wCall rfl (by (first | (simp only [awanted, gd_zero, gd_succ, beq_self_eq_true, beq_true, beq_false, Bool.not_true, Bool.not_false, *]; done) | rfl)) rfl (Sp.mono (c22 _ (Up.refl _)) ?_); rintro v ha ⟨rfl, hna⟩; dsimp only [putT, ev, Int.toNat_zero, Nat.sub_zero, Int.toNat_natCast,  gd_zero, gd_succ, Nat.zero_add, Nat.add_zero, Nat.reduceAdd, Nat.reduceMul, List.set_cons_zero, List.set_cons_succ, keep, List.contains_cons, List.contains_nil])
      | (refine wCall rfl (by (first | (simp only [awanted, gd_zero, gd_succ, beq_self_eq_true, beq_true, beq_false, Bool.not_true, Bool.not_false, *]; done) | rfl)) rfl (Sp.mono (sp20 p N [] Z12 _ (hna.up (by repeat' (first | assumption | exact Up.refl _ | refine Up.new ?_ ?_))).rd) ?_); rintro v hz2 ⟨rfl, hx⟩; cases hx; dsimp only [List.length_nil]; dsimp only [putT, ev, Int.toNat_zero, Nat.sub_zero, Int.toNat_natCast,  gd_zero, gd_succ, Nat.zero_add, Nat.add_zero, Nat.reduceAdd, Nat.reduceMul, List.set_cons_zero, List.set_cons_succ, keep, List.contains_cons, List.contains_nil])
      | (refine wCall rfl (by (first | (simp only [awanted, gd_zero, gd_succ, beq_self_eq_true, beq_true, beq_false, Bool.not_true, Bool.not_false, *]; done) | rfl)) rfl (Sp.mono (c18 _ (hna.up (by repeat' (first | assumption | exact Up.refl _ | refine Up.new ?_ ?_)))) ?_); rintro v hb ⟨rfl, hnb⟩; dsimp only [putT, ev, Int.toNat_zero, Nat.sub_zero, Int.toNat_natCast,  gd_zero, gd_succ, Nat.zero_add, Nat.add_zero, Nat.reduceAdd, Nat.reduceMul, List.set_cons_zero, List.set_cons_succ, keep, List.contains_cons, List.contains_nil])
      | (refine wCall rfl (by (first | (simp only [awanted, gd_zero, gd_succ, beq_self_eq_true, beq_true, beq_false, Bool.not_true, Bool.not_false, *]; done) | rfl)) rfl (Sp.mono (c19 _ hnb) ?_); rintro v hc ⟨rfl, hnc⟩; dsimp only [putT, ev, Int.toNat_zero, Nat.sub_zero, Int.toNat_natCast,  gd_zero, gd_succ, Nat.zero_add, Nat.add_zero, Nat.reduceAdd, Nat.reduceMul, List.set_cons_zero, List.set_cons_succ, keep, List.contains_cons, List.contains_nil])
      | (refine wCall rfl (by (first | (simp only [awanted, gd_zero, gd_succ, beq_self_eq_true, beq_true, beq_false, Bool.not_true, Bool.not_false, *]; done) | rfl)) rfl (Sp.mono (c17 _ hnc) ?_); rintro v hd ⟨rfl, hnd⟩; dsimp only [putT, ev, Int.toNat_zero, Nat.sub_zero, Int.toNat_natCast,  gd_zero, gd_succ, Nat.zero_add, Nat.add_zero, Nat.reduceAdd, Nat.reduceMul, List.set_cons_zero, List.set_cons_succ, keep, List.contains_cons, List.contains_nil])
      | (refine cSeq ?_) | (refine cNorm ?_) | (refine cRet ?_) | (refine cExit ?_) | (refine W_reg rfl ?_) | (refine W_block ?_) | (refine W_ret ?_) | (refine W_skip ?_) | (refine W_exit ?_) | (refine bNorm ?_) | (refine bRet ?_) | (refine bExit ?_) | (refine bExitN rfl ?_)
      | (refine cMask' (by simp only [keep, List.contains_cons, List.contains_nil, Nat.reduceBEq, Bool.or_true, Bool.true_or, Bool.or_false, Bool.false_or, if_true, if_false, Bool.false_eq_true, beq_self_eq_true, Nat.zero_add, Nat.reduceAdd, eq_self]; exact rfl) ?_)
      | (refine cT (by (first | (simp only [go_sem, *]; (first | done | exact rfl)) | rfl)) ?_) | (refine cF (by (first | (simp only [go_sem, *]; (first | done | exact rfl)) | rfl)) ?_)
      | (refine rRet (by (first | (simp only [go_sem, *]; (first | done | exact rfl)) | rfl)) ?_) | (refine rNorm (by (first | (simp only [go_sem, *]; (first | done | exact rfl)) | rfl)) ?_)
      | (refine wSplit _ rfl (by (first | (simp only [go_sem, *]; (first | done | exact rfl)) | rfl)) ?_ ?_ <;> intro hb <;> (try simp only [beq_false, beq_true, Bool.not_true, Bool.not_false, Bool.not_eq_true', Bool.not_eq_false', decide_eq_false_iff_not, decide_eq_true_eq, bne_iff_ne, beq_iff_eq, Bool.true_eq, Bool.false_eq, Bool.not_not, Bool.and_eq_true, Bool.or_eq_true, Bool.bne_true, Bool.bne_false, bne_eq_false_iff_eq, beq_eq_false_iff_ne, ne_eq] at hb))
      | (refine W_cond _ (by (first | (simp only [go_sem, *]; (first | done | exact rfl)) | rfl)) ?_ ?_ <;> intro hb <;> (try simp only [beq_false, beq_true, Bool.not_true, Bool.not_false, Bool.not_eq_true', Bool.not_eq_false', decide_eq_false_iff_not, decide_eq_true_eq, bne_iff_ne, beq_iff_eq, Bool.true_eq, Bool.false_eq, Bool.not_not, Bool.and_eq_true, Bool.or_eq_true, Bool.bne_true, Bool.bne_false, bne_eq_false_iff_eq, beq_eq_false_iff_ne, ne_eq] at hb)))
    all_goals rfl
end Go.Proofs.YtdehmopdlbdmfaaI
