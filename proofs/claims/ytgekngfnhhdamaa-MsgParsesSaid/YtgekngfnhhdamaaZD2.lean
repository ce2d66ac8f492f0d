/- What the statement's proof needs (joined out of several texts); no conditions. -/
import Derived.Test.YtgekngfnhhdamaaZD1
import Derived.Test.YtgekngfnhhdamaaM30
set_option linter.unusedVariables false
set_option linter.unusedSimpArgs false
set_option maxRecDepth 100000
set_option maxHeartbeats 4000000
namespace Go.Proofs.YtgekngfnhhdamaaI
open Go Go.Proofs.YtgekngfnhhdamaaM
attribute [local go_sem] aop ev fg_slc fg_slk fg_ptr fg_bool fg_int fg_str fg_iface fg_func fg_agg fg_tup fg_nils fg_nilp fg_nilI fg_nilF fg_und aboundsK alen_nils alen_slc alen_slk aslice_nils aslice_slc aslice_slk awanted abin aun aint aeqn aeqc aeqs apart abounds abnd amaxi amaxiGo cells_agg cells_slc cells_slk cells_ptr cells_bool cells_int cells_str cells_iface cells_func cells_tup cells_nils cells_nilp cells_nilI cells_nilF cells_und sc_slc sc_slk sc_ptr sc_bool sc_int sc_str sc_iface sc_func sc_nils sc_nilp sc_nilI sc_nilF gd_zero gd_succ List.all_cons List.all_nil Bool.and_self Bool.and_true Bool.true_and List.length_cons List.length_nil Option.map_some Option.some.injEq cell_same cell_ne cell_ne' cellsAt_same cellsAt_ne cellsAt_ne' put_same put_of set_same set_ne set_ne' List.getElem?_cons_zero List.getElem?_cons_succ if_true if_false and_self and_true true_and ne_eq not_true_eq_false not_false_eq_true decide_true decide_false Bool.false_eq_true Bool.true_eq_false beq_self_eq_true bne_self_eq_false beq_true beq_false Bool.not_true Bool.not_false List.map_cons List.map_nil putL List.set_cons_zero List.set_cons_succ afill Nat.zero_le Nat.le_refl Nat.zero_add Nat.add_zero List.drop_zero List.drop_succ_cons List.take_zero List.take_succ_cons Bool.not_eq_true Bool.not_eq_false decide_eq_true_eq decide_eq_false_iff_not Int.toNat_zero Nat.sub_zero Int.toNat_natCast Bool.bne_true Bool.bne_false AH.cell AH.cellsAt AH.put Nat.mul_one Nat.one_mul Int.natCast_nonneg List.length_set aslice aapp bc_length AV.scalar
theorem be_take (v : Nat) : ∀ n k i, k + (i + 1) = n → (be v n).take (k + 1) = (be v n).take k ++ [UInt8.ofNat (v / 256 ^ i)]
  | 0, k, i, h => by omega
  | n + 1, 0, i, h => by
    obtain rfl : i = n := by omega
    simp [be]
  | n + 1, k + 1, i, h => by
    have := be_take v n k i (by omega)
    simp only [be, List.take_succ_cons, List.cons_append, this]
theorem fdiv_pow (v s i : Nat) (hs : s = 8 * i) (hi : i ≤ 7) : ((v : Int)).fdiv (2 ^ min s 64) = ((v / 256 ^ i : Nat) : Int) := by
  have e : min s 64 = 8 * i := by omega
  rw [e, Int.fdiv_eq_ediv_of_nonneg _ (by exact Int.pow_nonneg (by decide)), Int.pow_mul]
  norm_cast
theorem u8wrap (w : Nat) : IntKind.u8.wrap (w : Int) = ((UInt8.ofNat w).toNat : Int) := by
  rw [wrapU8]; simp
/-- head -/
theorem sp64 (v : Nat) (h : AH) : Sp T 64 [.int .u64 v] h (fun r h' => r = .tup [.int .u8 (UInt8.ofNat (hd v).1).toNat, .int .i64 (hd v).2] ∧ h' = h) := by
  have e1 := u8wrap v
  rcases (show v < 252 ∨ (¬ v < 252 ∧ v < 65536) ∨ (¬ v < 252 ∧ ¬ v < 65536 ∧ v < 4294967296) ∨ (¬ v < 252 ∧ ¬ v < 65536 ∧ ¬ v < 4294967296) from by omega) with c | ⟨c, c2⟩ | ⟨c, c2, c3⟩ | ⟨c, c2, c3⟩
  · have d1 : (v : Int) < 252 := by omega
    refine Sp_of (fn := f64) rfl (show W T b64 [.int .u64 v, .tup [], .tup [], .tup [], .tup [], .tup [], .tup [], .tup [], .tup [], .tup [], .tup [], .tup [], .tup [], .tup [], .tup []] _ _ from ?_)
    unfold b64
    repeat' (first | (refine wNil ?_) | (refine xPure ?_) | (refine xMk ?_; intro id hid; (try simp only [set_none_iff] at hid); refine mkDo ?_) | (refine xChk ?_) | (refine xChkF ?_) | (refine xSkip ?_) | (refine cSeq ?_) | (refine cNorm ?_) | (refine cRet ?_) | (refine cExit ?_) | (refine W_reg rfl ?_) | (refine W_block ?_) | (refine W_ret ?_) | (refine W_skip ?_) | (refine W_exit ?_) | (refine bNorm ?_) | (refine bRet ?_) | (refine bExit ?_) | (refine bExitN rfl ?_) | (refine xMask ?_) | (refine xT ?_) | (refine xF ?_) | (refine xRet ?_) | (refine xNorm ?_) | (refine xSplit ?_ ?_ <;> intro hb <;> (try exact False.elim hb)) | (refine xCond ?_ ?_ <;> intro hb <;> (try exact False.elim hb)))
    all_goals exact ⟨by unfold hd; rw [if_pos c]; rfl, rfl⟩
  · have d1 : ¬ (v : Int) < 252 := by omega
    have d2 : (v : Int) < 65536 := by omega
    refine Sp_of (fn := f64) rfl (show W T b64 [.int .u64 v, .tup [], .tup [], .tup [], .tup [], .tup [], .tup [], .tup [], .tup [], .tup [], .tup [], .tup [], .tup [], .tup [], .tup []] _ _ from ?_)
    unfold b64
    repeat' (first | (refine wNil ?_) | (refine xPure ?_) | (refine xMk ?_; intro id hid; (try simp only [set_none_iff] at hid); refine mkDo ?_) | (refine xChk ?_) | (refine xChkF ?_) | (refine xSkip ?_) | (refine cSeq ?_) | (refine cNorm ?_) | (refine cRet ?_) | (refine cExit ?_) | (refine W_reg rfl ?_) | (refine W_block ?_) | (refine W_ret ?_) | (refine W_skip ?_) | (refine W_exit ?_) | (refine bNorm ?_) | (refine bRet ?_) | (refine bExit ?_) | (refine bExitN rfl ?_) | (refine xMask ?_) | (refine xT ?_) | (refine xF ?_) | (refine xRet ?_) | (refine xNorm ?_) | (refine xSplit ?_ ?_ <;> intro hb <;> (try exact False.elim hb)) | (refine xCond ?_ ?_ <;> intro hb <;> (try exact False.elim hb)))
    all_goals exact ⟨by unfold hd; rw [if_neg c, if_pos c2]; rfl, rfl⟩
  · have d1 : ¬ (v : Int) < 252 := by omega
    have d2 : ¬ (v : Int) < 65536 := by omega
    have d3 : (v : Int) < 4294967296 := by omega
    refine Sp_of (fn := f64) rfl (show W T b64 [.int .u64 v, .tup [], .tup [], .tup [], .tup [], .tup [], .tup [], .tup [], .tup [], .tup [], .tup [], .tup [], .tup [], .tup [], .tup []] _ _ from ?_)
    unfold b64
    repeat' (first | (refine wNil ?_) | (refine xPure ?_) | (refine xMk ?_; intro id hid; (try simp only [set_none_iff] at hid); refine mkDo ?_) | (refine xChk ?_) | (refine xChkF ?_) | (refine xSkip ?_) | (refine cSeq ?_) | (refine cNorm ?_) | (refine cRet ?_) | (refine cExit ?_) | (refine W_reg rfl ?_) | (refine W_block ?_) | (refine W_ret ?_) | (refine W_skip ?_) | (refine W_exit ?_) | (refine bNorm ?_) | (refine bRet ?_) | (refine bExit ?_) | (refine bExitN rfl ?_) | (refine xMask ?_) | (refine xT ?_) | (refine xF ?_) | (refine xRet ?_) | (refine xNorm ?_) | (refine xSplit ?_ ?_ <;> intro hb <;> (try exact False.elim hb)) | (refine xCond ?_ ?_ <;> intro hb <;> (try exact False.elim hb)))
    all_goals exact ⟨by unfold hd; rw [if_neg c, if_neg c2, if_pos c3]; rfl, rfl⟩
  · have d1 : ¬ (v : Int) < 252 := by omega
    have d2 : ¬ (v : Int) < 65536 := by omega
    have d3 : ¬ (v : Int) < 4294967296 := by omega
    refine Sp_of (fn := f64) rfl (show W T b64 [.int .u64 v, .tup [], .tup [], .tup [], .tup [], .tup [], .tup [], .tup [], .tup [], .tup [], .tup [], .tup [], .tup [], .tup [], .tup []] _ _ from ?_)
    unfold b64
    repeat' (first | (refine wNil ?_) | (refine xPure ?_) | (refine xMk ?_; intro id hid; (try simp only [set_none_iff] at hid); refine mkDo ?_) | (refine xChk ?_) | (refine xChkF ?_) | (refine xSkip ?_) | (refine cSeq ?_) | (refine cNorm ?_) | (refine cRet ?_) | (refine cExit ?_) | (refine W_reg rfl ?_) | (refine W_block ?_) | (refine W_ret ?_) | (refine W_skip ?_) | (refine W_exit ?_) | (refine bNorm ?_) | (refine bRet ?_) | (refine bExit ?_) | (refine bExitN rfl ?_) | (refine xMask ?_) | (refine xT ?_) | (refine xF ?_) | (refine xRet ?_) | (refine xNorm ?_) | (refine xSplit ?_ ?_ <;> intro hb <;> (try exact False.elim hb)) | (refine xCond ?_ ?_ <;> intro hb <;> (try exact False.elim hb)))
    all_goals exact ⟨by unfold hd; rw [if_neg c, if_neg c2, if_neg c3]; rfl, rfl⟩
end Go.Proofs.YtgekngfnhhdamaaI
set_option linter.unusedVariables false
set_option linter.unusedSimpArgs false
set_option maxRecDepth 100000
set_option maxHeartbeats 4000000
namespace Go.Proofs.YtgekngfnhhdamaaI
open Go Go.Proofs.YtgekngfnhhdamaaM
attribute [local go_sem] aop ev fg_slc fg_slk fg_ptr fg_bool fg_int fg_str fg_iface fg_func fg_agg fg_tup fg_nils fg_nilp fg_nilI fg_nilF fg_und aboundsK alen_nils alen_slc alen_slk aslice_nils aslice_slc aslice_slk awanted abin aun aint aeqn aeqc aeqs apart abounds abnd amaxi amaxiGo cells_agg cells_slc cells_slk cells_ptr cells_bool cells_int cells_str cells_iface cells_func cells_tup cells_nils cells_nilp cells_nilI cells_nilF cells_und sc_slc sc_slk sc_ptr sc_bool sc_int sc_str sc_iface sc_func sc_nils sc_nilp sc_nilI sc_nilF gd_zero gd_succ List.all_cons List.all_nil Bool.and_self Bool.and_true Bool.true_and List.length_cons List.length_nil Option.map_some Option.some.injEq cell_same cell_ne cell_ne' cellsAt_same cellsAt_ne cellsAt_ne' put_same put_of set_same set_ne set_ne' List.getElem?_cons_zero List.getElem?_cons_succ if_true if_false and_self and_true true_and ne_eq not_true_eq_false not_false_eq_true decide_true decide_false Bool.false_eq_true Bool.true_eq_false beq_self_eq_true bne_self_eq_false beq_true beq_false Bool.not_true Bool.not_false List.map_cons List.map_nil putL List.set_cons_zero List.set_cons_succ afill Nat.zero_le Nat.le_refl Nat.zero_add Nat.add_zero List.drop_zero List.drop_succ_cons List.take_zero List.take_succ_cons Bool.not_eq_true Bool.not_eq_false decide_eq_true_eq decide_eq_false_iff_not Int.toNat_zero Nat.sub_zero Int.toNat_natCast Bool.bne_true Bool.bne_false AH.cell AH.cellsAt AH.put Nat.mul_one Nat.one_mul Int.natCast_nonneg List.length_set aslice aapp azeros List.cons_append List.nil_append List.append_nil bc_length AV.scalar
/-- (*Writer).wide -/
theorem sp65 (h0 : AH) (p : List Nat) (l : List UInt8) (v n : Nat) (h : AH) (hw : Wr h0 p h l) (hn : n ≤ 8) (hl : l.length ≤ 1099511627776) : Sp T 65 [.ptr p 0, .int .u64 v, .int .i64 n] h (fun r h' => Wr h0 p h' (l ++ be v n)) := by
  have c0 : IntKind.i64.wrap ((n : Int) - 1) = (n : Int) - 1 := wrap64 (by omega) (by omega)
  refine Sp_of (fn := f65) rfl (show W T b65 [.ptr p 0, .int .u64 v, .int .i64 n, .tup [], .tup [], .tup [], .tup [], .tup [], .tup [], .tup [], .tup [], .tup [], .tup [], .tup [], .tup [], .tup [], .tup [], .tup [], .tup [], .tup [], .tup [], .tup [], .tup [], .tup [], .tup [], .tup [], .tup []] _ _ from ?_)
  unfold b65
  repeat' (first | (refine wNil ?_) | (refine xPure ?_) | (refine xMk ?_; intro id hid; (try simp only [set_none_iff] at hid); refine mkDo ?_) | (refine xChk ?_) | (refine xChkF ?_) | (refine xSkip ?_) | (refine cSeq ?_) | (refine cNorm ?_) | (refine cRet ?_) | (refine cExit ?_) | (refine W_reg rfl ?_) | (refine W_block ?_) | (refine W_ret ?_) | (refine W_skip ?_) | (refine W_exit ?_) | (refine bNorm ?_) | (refine bRet ?_) | (refine bExit ?_) | (refine bExitN rfl ?_) | (refine xMask ?_) | (refine xT ?_) | (refine xF ?_) | (refine xRet ?_) | (refine xNorm ?_) | (refine xSplit ?_ ?_ <;> intro hb <;> (try exact False.elim hb)) | (refine xCond ?_ ?_ <;> intro hb <;> (try exact False.elim hb)))
  refine W_loop (fun m tm h' => ∃ k, k + m = n ∧ Wr h0 p h' (l ++ (be v n).take k) ∧ keep [0, 1, 6] 0 tm = [.ptr p 0, .int .u64 v, .und, .und, .und, .und, .int .i64 ((m : Int) - 1), .und, .und, .und, .und, .und, .und, .und, .und, .und, .und, .und, .und, .und, .und, .und, .und, .und, .und, .und, .und]) n ⟨0, by omega, by simpa using hw, rfl⟩ ?_
  clear hw c0
  rintro m tm h' ⟨k, hk, hw, htm⟩
  refine cSeq (cMask (cNorm ?_))
  rw [htm]; clear htm
  by_cases hm : m = 0
  · subst hm
    have d1 : ¬ (0 : Int) ≤ ((0 : Nat) : Int) - 1 := by omega
    repeat' (first | (refine wNil ?_) | (refine xPure ?_) | (refine xMk ?_; intro id hid; (try simp only [set_none_iff] at hid); refine mkDo ?_) | (refine xChk ?_) | (refine xChkF ?_) | (refine xSkip ?_) | (refine cSeq ?_) | (refine cNorm ?_) | (refine cRet ?_) | (refine cExit ?_) | (refine W_reg rfl ?_) | (refine W_block ?_) | (refine W_ret ?_) | (refine W_skip ?_) | (refine W_exit ?_) | (refine bNorm ?_) | (refine bRet ?_) | (refine bExit ?_) | (refine bExitN rfl ?_) | (refine xMask ?_) | (refine xT ?_) | (refine xF ?_) | (refine xRet ?_) | (refine xNorm ?_) | (refine xSplit ?_ ?_ <;> intro hb <;> (try exact False.elim hb)) | (refine xCond ?_ ?_ <;> intro hb <;> (try exact False.elim hb)))
    all_goals (rw [List.take_of_length_le (by rw [be_length]; omega)] at hw; exact hw)
  · obtain ⟨i, rfl⟩ : ∃ i, m = i + 1 := ⟨m - 1, by omega⟩
    have e0 : ((i + 1 : Nat) : Int) - 1 = (i : Int) := by omega
    rw [e0]
    have d1 : (0 : Int) ≤ (i : Int) := by omega
    obtain ⟨s, hs⟩ : ∃ s : Nat, s = 8 * i := ⟨_, rfl⟩
    have d2 : IntKind.i64.wrap (8 * (i : Int)) = (s : Int) := by rw [wrap64 (by omega) (by omega)]; omega
    have d3 : ¬ (s : Int) < 0 := by omega
    have d4 := fdiv_pow v s i hs (by omega)
    have d5 := u8wrap (v / 256 ^ i)
    have d6 : IntKind.i64.wrap ((i : Int) - 1) = (i : Int) - 1 := wrap64 (by omega) (by omega)
    have d7 := be_take v n k i (by omega)
    obtain ⟨l', hl'⟩ : ∃ l', l ++ (be v n).take k = l' := ⟨_, rfl⟩
    have d8 : l ++ (be v n).take (k + 1) = l' ++ [UInt8.ofNat (v / 256 ^ i)] := by rw [d7, ← List.append_assoc, hl']
    have d9 : l'.length + 1 ≤ roomMost := by
      have : l'.length = l.length + k := by rw [← hl', List.length_append, List.length_take, be_length]; omega
      unfold roomMost; omega
    have d10 : 1 ≤ roomMost := by omega
    rw [hl'] at hw
    clear hl' d7 hs e0
    have hw' := hw
    obtain ⟨hs, hp0, S, hp, hS⟩ := hw'
    rcases hS with ⟨rfl, rfl⟩ | ⟨j, j1, j2, rfl, j4⟩
    · repeat' (first | (refine wNil ?_) | (refine xPure ?_) | (refine xMk ?_; intro id hid; (try simp only [set_none_iff] at hid); have hz := hid; (repeat (replace hz := hz.2)); (try have := nei hp hz); refine mkDo ?_) | (refine xChk ?_) | (refine xChkF ?_) | (refine xSkip ?_) | (refine cSeq ?_) | (refine cNorm ?_) | (refine cRet ?_) | (refine cExit ?_) | (refine W_reg rfl ?_) | (refine W_block ?_) | (refine W_ret ?_) | (refine W_skip ?_) | (refine W_exit ?_) | (refine bNorm ?_) | (refine bRet ?_) | (refine bExit ?_) | (refine bExitN rfl ?_) | (refine xMask ?_) | (refine xT ?_) | (refine xF ?_) | (refine xRet ?_) | (refine xNorm ?_) | (refine xSplit ?_ ?_ <;> intro hb <;> (try exact False.elim hb)) | (refine xCond ?_ ?_ <;> intro hb <;> (try exact False.elim hb)))
      all_goals exact ⟨i, by omega, k + 1, by omega, by rw [d8]; exact Wr.appN hw (Up.new (Up.refl _) (by assumption)) (by simp only [set_none_iff]; assumption) _ _ rfl rfl, by simp only [keep, List.contains_cons, List.contains_nil, Nat.reduceBEq, Bool.or_true, Bool.true_or, Bool.or_false, Bool.false_or, if_true, if_false, Bool.false_eq_true, beq_self_eq_true, Nat.zero_add, Nat.reduceAdd, eq_self]⟩
    · repeat' (first | (refine wNil ?_) | (refine xPure ?_) | (refine xMk ?_; intro id hid; (try simp only [set_none_iff] at hid); have hz := hid; (repeat (replace hz := hz.2)); (try have := nei hp hz); (try have := nei j4 hz); refine mkDo ?_) | (refine xChk ?_) | (refine xChkF ?_) | (refine xSkip ?_) | (refine cSeq ?_) | (refine cNorm ?_) | (refine cRet ?_) | (refine cExit ?_) | (refine W_reg rfl ?_) | (refine W_block ?_) | (refine W_ret ?_) | (refine W_skip ?_) | (refine W_exit ?_) | (refine bNorm ?_) | (refine bRet ?_) | (refine bExit ?_) | (refine bExitN rfl ?_) | (refine xMask ?_) | (refine xT ?_) | (refine xF ?_) | (refine xRet ?_) | (refine xNorm ?_) | (refine xSplit ?_ ?_ <;> intro hb <;> (try exact False.elim hb)) | (refine xCond ?_ ?_ <;> intro hb <;> (try exact False.elim hb)))
      all_goals exact ⟨i, by omega, k + 1, by omega, by rw [d8]; exact Wr.appS hs hp0 hp j1 j2 (Up.new (Up.refl _) (by assumption)) (by simp only [set_none_iff]; assumption) _ _ (by simp [bc, List.take_of_length_le]) (by simp), by simp only [keep, List.contains_cons, List.contains_nil, Nat.reduceBEq, Bool.or_true, Bool.true_or, Bool.or_false, Bool.false_or, if_true, if_false, Bool.false_eq_true, beq_self_eq_true, Nat.zero_add, Nat.reduceAdd, eq_self]⟩
end Go.Proofs.YtgekngfnhhdamaaI
set_option linter.unusedVariables false
set_option linter.unusedSimpArgs false
set_option maxRecDepth 100000
set_option maxHeartbeats 4000000
namespace Go.Proofs.YtgekngfnhhdamaaI
open Go Go.Proofs.YtgekngfnhhdamaaM
attribute [local go_sem] aop ev fg_slc fg_slk fg_ptr fg_bool fg_int fg_str fg_iface fg_func fg_agg fg_tup fg_nils fg_nilp fg_nilI fg_nilF fg_und aboundsK alen_nils alen_slc alen_slk aslice_nils aslice_slc aslice_slk awanted abin aun aint aeqn aeqc aeqs apart abounds abnd amaxi amaxiGo cells_agg cells_slc cells_slk cells_ptr cells_bool cells_int cells_str cells_iface cells_func cells_tup cells_nils cells_nilp cells_nilI cells_nilF cells_und sc_slc sc_slk sc_ptr sc_bool sc_int sc_str sc_iface sc_func sc_nils sc_nilp sc_nilI sc_nilF gd_zero gd_succ List.all_cons List.all_nil Bool.and_self Bool.and_true Bool.true_and List.length_cons List.length_nil Option.map_some Option.some.injEq cell_same cell_ne cell_ne' cellsAt_same cellsAt_ne cellsAt_ne' put_same put_of set_same set_ne set_ne' List.getElem?_cons_zero List.getElem?_cons_succ if_true if_false and_self and_true true_and ne_eq not_true_eq_false not_false_eq_true decide_true decide_false Bool.false_eq_true Bool.true_eq_false beq_self_eq_true bne_self_eq_false beq_true beq_false Bool.not_true Bool.not_false List.map_cons List.map_nil putL List.set_cons_zero List.set_cons_succ afill Nat.zero_le Nat.le_refl Nat.zero_add Nat.add_zero List.drop_zero List.drop_succ_cons List.take_zero List.take_succ_cons Bool.not_eq_true Bool.not_eq_false decide_eq_true_eq decide_eq_false_iff_not Int.toNat_zero Nat.sub_zero Int.toNat_natCast Bool.bne_true Bool.bne_false AH.cell AH.cellsAt AH.put Nat.mul_one Nat.one_mul Int.natCast_nonneg List.length_set aslice azeros List.cons_append List.nil_append List.append_nil bc_length AV.scalar
theorem pre_len {α : Type} (enc : α → List UInt8) : ∀ (vs : List α) (k : Nat) (v : α), vs[k]? = some v → ((vs.take k).flatMap enc).length + (enc v).length ≤ (vs.flatMap enc).length
  | [], k, v, h => by simp at h
  | x :: vs, 0, v, h => by
    have : x = v := by simpa using h
    subst this; simp
  | x :: vs, k + 1, v, h => by
    have := pre_len enc vs k v (by simpa using h)
    simp only [List.take_succ_cons, List.flatMap_cons, List.length_append]; omega
theorem take_enc {α : Type} (enc : α → List UInt8) (l : List UInt8) {vs : List α} {k : Nat} {v : α} (h : vs[k]? = some v) : l ++ (vs.take (k + 1)).flatMap enc = l ++ (vs.take k).flatMap enc ++ enc v := by
  rw [List.take_add_one, h, List.flatMap_append, ← List.append_assoc]; simp
theorem roomy {n : Nat} (h : n ≤ 1099511627776) : n ≤ roomMost := by unfold roomMost; omega
theorem hd2 (v : Nat) : (hd v).2 ≤ 8 := by unfold hd; split <;> (try split) <;> (try split) <;> simp
theorem wr_open {h0 h : AH} {p : List Nat} {l : List UInt8} (hw : Wr h0 p h l) : ∃ S, h p = some ⟨true, [S]⟩ ∧ Sl h0 p h S l := hw.2.2
/-- (*Writer).Text -/
theorem sp31 (h0 : AH) (p : List Nat) (l : List UInt8) (h : AH) (hw : Wr h0 p h l) : Sp T 31 [.ptr p 0] h (fun r h' => r = .str ⟨l.toArray⟩ ∧ h' = h) := by
  obtain ⟨S, hp, hS⟩ := wr_open hw
  rcases hS with ⟨rfl, rfl⟩ | ⟨i, i1, i2, rfl, i4⟩
  · refine Sp_of (fn := f31) rfl (show W T b31 [.ptr p 0, .tup [], .tup [], .tup [], .tup [], .tup [], .tup [], .tup []] _ _ from ?_)
    unfold b31
    repeat' (first | (refine wNil ?_) | (refine wPure rfl (by (first | (simp only [go_sem, abytes, *]; (first | done | exact rfl)) | rfl)) rfl (by (first | (simp only [go_sem, abytes, *]; (first | done | exact rfl)) | rfl)) ?_; dsimp only [putT, ev, Int.toNat_zero, Nat.sub_zero, Int.toNat_natCast,  gd_zero, gd_succ, Nat.zero_add, Nat.add_zero, Nat.reduceAdd, Nat.reduceMul, List.set_cons_zero, List.set_cons_succ, keep, List.contains_cons, List.contains_nil]) | (refine wMk rfl (by (first | (simp only [go_sem, abytes, *]; (first | done | exact rfl)) | rfl)) rfl ?_; intro id hid; (try simp only [set_none_iff] at hid); refine ⟨_, (by (first | (simp only [go_sem, abytes, *]; (first | done | exact rfl)) | rfl)), ?_⟩; dsimp only [putT, ev, Int.toNat_zero, Nat.sub_zero, Int.toNat_natCast,  gd_zero, gd_succ, Nat.zero_add, Nat.add_zero, Nat.reduceAdd, Nat.reduceMul, List.set_cons_zero, List.set_cons_succ, keep, List.contains_cons, List.contains_nil]) | (refine wChk rfl (by (first | (simp only [go_sem, abytes, *]; (first | done | exact rfl)) | rfl)) rfl (by (first | (simp only [go_sem, abytes, *]; (first | done | exact rfl)) | rfl)) rfl ?_) | (refine wChkF rfl (by (first | (simp only [go_sem, abytes, *]; (first | done | exact rfl)) | rfl)) rfl ?_) | (refine wSkip rfl (by (first | (simp only [go_sem, abytes, *]; (first | done | exact rfl)) | rfl)) ?_; dsimp only [putT, ev, Int.toNat_zero, Nat.sub_zero, Int.toNat_natCast,  gd_zero, gd_succ, Nat.zero_add, Nat.add_zero, Nat.reduceAdd, Nat.reduceMul, List.set_cons_zero, List.set_cons_succ, keep, List.contains_cons, List.contains_nil]) | (refine cSeq ?_) | (refine cNorm ?_) | (refine cRet ?_) | (refine cExit ?_) | (refine W_reg rfl ?_) | (refine W_block ?_) | (refine W_ret ?_) | (refine W_skip ?_) | (refine W_exit ?_) | (refine bNorm ?_) | (refine bRet ?_) | (refine bExit ?_) | (refine bExitN rfl ?_) | (refine cMask' (by simp only [keep, List.contains_cons, List.contains_nil, Nat.reduceBEq, Bool.or_true, Bool.true_or, Bool.or_false, Bool.false_or, if_true, if_false, Bool.false_eq_true, beq_self_eq_true, Nat.zero_add, Nat.reduceAdd, eq_self]; exact rfl) ?_) | (refine cT (by (first | (simp only [go_sem, abytes, *]; (first | done | exact rfl)) | rfl)) ?_) | (refine cF (by (first | (simp only [go_sem, abytes, *]; (first | done | exact rfl)) | rfl)) ?_) | (refine rRet (by (first | (simp only [go_sem, abytes, *]; (first | done | exact rfl)) | rfl)) ?_) | (refine rNorm (by (first | (simp only [go_sem, abytes, *]; (first | done | exact rfl)) | rfl)) ?_) | (refine wSplit _ rfl (by (first | (simp only [go_sem, abytes, *]; (first | done | exact rfl)) | rfl)) ?_ ?_ <;> intro hb <;> (try simp only [beq_false, beq_true, Bool.not_true, Bool.not_false, Bool.not_eq_true', Bool.not_eq_false', decide_eq_false_iff_not, decide_eq_true_eq, bne_iff_ne, beq_iff_eq, Bool.true_eq, Bool.false_eq, Bool.not_not, Bool.and_eq_true, Bool.or_eq_true, Bool.bne_true, Bool.bne_false, bne_eq_false_iff_eq, beq_eq_false_iff_ne, ne_eq] at hb)) | (refine W_cond _ (by (first | (simp only [go_sem, abytes, *]; (first | done | exact rfl)) | rfl)) ?_ ?_ <;> intro hb <;> (try simp only [beq_false, beq_true, Bool.not_true, Bool.not_false, Bool.not_eq_true', Bool.not_eq_false', decide_eq_false_iff_not, decide_eq_true_eq, bne_iff_ne, beq_iff_eq, Bool.true_eq, Bool.false_eq, Bool.not_not, Bool.and_eq_true, Bool.or_eq_true, Bool.bne_true, Bool.bne_false, bne_eq_false_iff_eq, beq_eq_false_iff_ne, ne_eq] at hb)))
    all_goals exact ⟨rfl, rfl⟩
  · have e1 : (bc l).take l.length = bc l := List.take_of_length_le (by rw [bc_length]; omega)
    have e2 := abytes_bc l
    refine Sp_of (fn := f31) rfl (show W T b31 [.ptr p 0, .tup [], .tup [], .tup [], .tup [], .tup [], .tup [], .tup []] _ _ from ?_)
    unfold b31
    repeat' (first | (refine wNil ?_) | (refine xPure ?_) | (refine xMk ?_; intro id hid; (try simp only [set_none_iff] at hid); refine mkDo ?_) | (refine xChk ?_) | (refine xChkF ?_) | (refine xSkip ?_) | (refine cSeq ?_) | (refine cNorm ?_) | (refine cRet ?_) | (refine cExit ?_) | (refine W_reg rfl ?_) | (refine W_block ?_) | (refine W_ret ?_) | (refine W_skip ?_) | (refine W_exit ?_) | (refine bNorm ?_) | (refine bRet ?_) | (refine bExit ?_) | (refine bExitN rfl ?_) | (refine xMask ?_) | (refine xT ?_) | (refine xF ?_) | (refine xRet ?_) | (refine xNorm ?_) | (refine xSplit ?_ ?_ <;> intro hb <;> (try exact False.elim hb)) | (refine xCond ?_ ?_ <;> intro hb <;> (try exact False.elim hb)))
    all_goals exact ⟨rfl, rfl⟩
/-- (*Writer).U -/
theorem sp30 (h0 : AH) (p q : List Nat) (ob : Bool) (l : List UInt8) (vs : List Nat) (h : AH) (hw : Wr h0 p h l) (hq : h0 q = some ⟨ob, vs.map fun (v : Nat) => (AV.int .u64 (v : Int))⟩) (hl : (l ++ vs.flatMap encU).length ≤ 1099511627776) (hn : vs.length ≤ 1099511627776) :
    Sp T 30 [.ptr p 0, .slc q 0 vs.length 1] h (fun r h' => r = .ptr p 0 ∧ Wr h0 p h' (l ++ vs.flatMap encU)) := by
  refine Sp_of (fn := f30) rfl (show W T b30 [.ptr p 0, .slc q 0 vs.length 1, .tup [], .tup [], .tup [], .tup [], .tup [], .tup [], .tup [], .tup [], .tup [], .tup [], .tup [], .tup [], .tup [], .tup [], .tup [], .tup [], .tup [], .tup [], .tup [], .tup [], .tup [], .tup [], .tup [], .tup [], .tup [], .tup [], .tup [], .tup [], .tup [], .tup [], .tup [], .tup [], .tup [], .tup []] _ _ from ?_)
  unfold b30
  repeat' (first | (refine wNil ?_) | (refine xPure ?_) | (refine xMk ?_; intro id hid; (try simp only [set_none_iff] at hid); refine mkDo ?_) | (refine xChk ?_) | (refine xChkF ?_) | (refine xSkip ?_) | (refine cSeq ?_) | (refine cNorm ?_) | (refine cRet ?_) | (refine cExit ?_) | (refine W_reg rfl ?_) | (refine W_block ?_) | (refine W_ret ?_) | (refine W_skip ?_) | (refine W_exit ?_) | (refine bNorm ?_) | (refine bRet ?_) | (refine bExit ?_) | (refine bExitN rfl ?_) | (refine xMask ?_) | (refine xT ?_) | (refine xF ?_) | (refine xRet ?_) | (refine xNorm ?_) | (refine xSplit ?_ ?_ <;> intro hb <;> (try exact False.elim hb)) | (refine xCond ?_ ?_ <;> intro hb <;> (try exact False.elim hb)))
  refine W_loop (fun m tm h' => ∃ k, k + m = vs.length ∧ Wr h0 p h' (l ++ (vs.take k).flatMap encU) ∧ keep [0, 9, 10, 11] 0 tm = [.ptr p 0, .und, .und, .und, .und, .und, .und, .und, .und, .slc q 0 vs.length 1, .int .i64 vs.length, .int .i64 (k : Int), .und, .und, .und, .und, .und, .und, .und, .und, .und, .und, .und, .und, .und, .und, .und, .und, .und, .und, .und, .und, .und, .und, .und, .und]) vs.length ⟨0, by omega, by simpa using hw, rfl⟩ ?_
  clear hw
  rintro m tm h' ⟨k, hk, hw, htm⟩
  refine cSeq (cMask (cNorm ?_))
  rw [htm]; clear htm
  by_cases hm : k < vs.length
  · have d1 : (k : Int) < (vs.length : Int) := by omega
    obtain ⟨v, hv⟩ : ∃ v, vs[k]? = some v := ⟨_, List.getElem?_eq_getElem hm⟩
    have g1 := hw.get hq
    have g2 : (vs.map fun (v : Nat) => (AV.int .u64 (v : Int)))[k]? = some (AV.int .u64 (v : Int)) := by rw [List.getElem?_map, hv]; rfl
    have d4 : IntKind.i64.wrap ((k : Int) + 1) = ((k + 1 : Nat) : Int) := by rw [wrap64 (by omega) (by omega)]; rfl
    have d7 := take_enc encU l hv
    have d8 := pre_len encU vs k v hv
    obtain ⟨l', hl'⟩ : ∃ l', l ++ (vs.take k).flatMap encU = l' := ⟨_, rfl⟩
    rw [hl'] at hw d7
    have d9 : l'.length + (encU v).length ≤ 1099511627776 := by rw [← hl', List.length_append]; rw [List.length_append] at hl; omega
    clear hl' d8
    have d5 := hd2 v
    have d6 : (encU v).length = 1 + (hd v).2 := by simp [encU, be_length]; omega
    obtain ⟨S, hp, hS⟩ := wr_open hw
    repeat' (first | (refine wNil ?_) | (refine xPure ?_) | (refine xMk ?_; intro id hid; (try simp only [set_none_iff] at hid); have hz := hid; (repeat (replace hz := hz.2)); (try have := nei hp hz); refine mkDo ?_) | (refine xChk ?_) | (refine xChkF ?_) | (refine xSkip ?_) | (refine xCall rfl rfl (sp64 v _) ?_; rintro r h2 ⟨rfl, rfl⟩; refine nTm ?_) | (refine wMk rfl (by (first | (simp only [go_sem, *]; (first | done | exact rfl)) | rfl)) rfl ?_; intro id hid; obtain ⟨h2, hA, hk, hW⟩ := app_step (m := [UInt8.ofNat (hd v).1]) hw hp hS (by (first | exact Up.refl _ | exact Up.new (Up.refl _) (by assumption))) hid (by simp) (roomy (by simp only [List.length_cons, List.length_nil]; omega)); refine ⟨(_, h2), (by simp only [go_sem, aslice, *]; (first | done | exact hA)), ?_⟩; clear hA; (try simp only [List.length_cons, List.length_nil, Nat.zero_add] at hW); dsimp only [putT, ev, Int.toNat_zero, Nat.sub_zero, Int.toNat_natCast,  gd_zero, gd_succ, Nat.zero_add, Nat.add_zero, Nat.reduceAdd, Nat.reduceMul, List.set_cons_zero, List.set_cons_succ, keep, List.contains_cons, List.contains_nil]) | (refine xCall rfl rfl (sp65 h0 p (l' ++ [UInt8.ofNat (hd v).1]) v (hd v).2 _ hW d5 (by simp only [List.length_append, List.length_cons, List.length_nil]; omega)) ?_; rintro r h3 hW2; rw [List.append_assoc] at hW2; refine nTm ?_) | (refine cSeq ?_) | (refine cNorm ?_) | (refine cRet ?_) | (refine cExit ?_) | (refine W_reg rfl ?_) | (refine W_block ?_) | (refine W_ret ?_) | (refine W_skip ?_) | (refine W_exit ?_) | (refine bNorm ?_) | (refine bRet ?_) | (refine bExit ?_) | (refine bExitN rfl ?_) | (refine xMask ?_) | (refine xT ?_) | (refine xF ?_) | (refine xRet ?_) | (refine xNorm ?_) | (refine xSplit ?_ ?_ <;> intro hb <;> (try exact False.elim hb)) | (refine xCond ?_ ?_ <;> intro hb <;> (try exact False.elim hb)))
    all_goals exact ⟨m - 1, by omega, k + 1, by omega, by rw [d7]; exact hW2, by simp only [keep, List.contains_cons, List.contains_nil, Nat.reduceBEq, Bool.or_true, Bool.true_or, Bool.or_false, Bool.false_or, if_true, if_false, Bool.false_eq_true, beq_self_eq_true, Nat.zero_add, Nat.reduceAdd, eq_self]⟩
  · have d1 : ¬ (k : Int) < (vs.length : Int) := by omega
    repeat' (first | (refine wNil ?_) | (refine xPure ?_) | (refine xMk ?_; intro id hid; (try simp only [set_none_iff] at hid); refine mkDo ?_) | (refine xChk ?_) | (refine xChkF ?_) | (refine xSkip ?_) | (refine cSeq ?_) | (refine cNorm ?_) | (refine cRet ?_) | (refine cExit ?_) | (refine W_reg rfl ?_) | (refine W_block ?_) | (refine W_ret ?_) | (refine W_skip ?_) | (refine W_exit ?_) | (refine bNorm ?_) | (refine bRet ?_) | (refine bExit ?_) | (refine bExitN rfl ?_) | (refine xMask ?_) | (refine xT ?_) | (refine xF ?_) | (refine xRet ?_) | (refine xNorm ?_) | (refine xSplit ?_ ?_ <;> intro hb <;> (try exact False.elim hb)) | (refine xCond ?_ ?_ <;> intro hb <;> (try exact False.elim hb)))
    all_goals (rw [List.take_of_length_le (by omega)] at hw; exact ⟨rfl, hw⟩)
end Go.Proofs.YtgekngfnhhdamaaI
set_option linter.unusedVariables false
set_option linter.unusedSimpArgs false
set_option maxRecDepth 100000
set_option maxHeartbeats 4000000
namespace Go.Proofs.YtgekngfnhhdamaaI
open Go Go.Proofs.YtgekngfnhhdamaaM
attribute [local go_sem] aop ev fg_slc fg_slk fg_ptr fg_bool fg_int fg_str fg_iface fg_func fg_agg fg_tup fg_nils fg_nilp fg_nilI fg_nilF fg_und aboundsK alen_nils alen_slc alen_slk aslice_nils aslice_slc aslice_slk awanted abin aun aint aeqn aeqc aeqs apart abounds abnd amaxi amaxiGo cells_agg cells_slc cells_slk cells_ptr cells_bool cells_int cells_str cells_iface cells_func cells_tup cells_nils cells_nilp cells_nilI cells_nilF cells_und sc_slc sc_slk sc_ptr sc_bool sc_int sc_str sc_iface sc_func sc_nils sc_nilp sc_nilI sc_nilF gd_zero gd_succ List.all_cons List.all_nil Bool.and_self Bool.and_true Bool.true_and List.length_cons List.length_nil Option.map_some Option.some.injEq cell_same cell_ne cell_ne' cellsAt_same cellsAt_ne cellsAt_ne' put_same put_of set_same set_ne set_ne' List.getElem?_cons_zero List.getElem?_cons_succ if_true if_false and_self and_true true_and ne_eq not_true_eq_false not_false_eq_true decide_true decide_false Bool.false_eq_true Bool.true_eq_false beq_self_eq_true bne_self_eq_false beq_true beq_false Bool.not_true Bool.not_false List.map_cons List.map_nil putL List.set_cons_zero List.set_cons_succ afill Nat.zero_le Nat.le_refl Nat.zero_add Nat.add_zero List.drop_zero List.drop_succ_cons List.take_zero List.take_succ_cons Bool.not_eq_true Bool.not_eq_false decide_eq_true_eq decide_eq_false_iff_not Int.toNat_zero Nat.sub_zero Int.toNat_natCast Bool.bne_true Bool.bne_false AH.cell AH.cellsAt AH.put Nat.mul_one Nat.one_mul Int.natCast_nonneg List.length_set aslice azeros List.cons_append List.nil_append List.append_nil bc_length AV.scalar
def Hid (p : Prop) : Prop := p
def encT (v : ByteArray) : List UInt8 := encS v.data.toList
theorem wr_same {h0 h : AH} {p : List Nat} {S : AV} {l : List UInt8} (hw : Wr h0 p h l) (hp : h p = some ⟨true, [S]⟩) : Wr h0 p (h.set p (some ⟨true, [S]⟩)) l := by
  have : h.set p (some ⟨true, [S]⟩) = h := by
    funext x; by_cases e : x = p
    · subst e; rw [set_same, hp]
    · rw [set_ne e]
  rw [this]; exact hw
/-- (*Writer).N -/
theorem sp40 (h0 : AH) (p q : List Nat) (ob : Bool) (l : List UInt8) (vs : List Int) (h : AH) (hw : Wr h0 p h l) (hq : h0 q = some ⟨ob, vs.map fun (v : Int) => (AV.int .i64 v)⟩) (hb : ∀ v ∈ vs, v ≤ 9223372036854775807) (hl : (l ++ vs.flatMap encN).length ≤ 1099511627776) (hn : vs.length ≤ 1099511627776) :
    Sp T 40 [.ptr p 0, .slc q 0 vs.length 1] h (fun r h' => r = .ptr p 0 ∧ Wr h0 p h' (l ++ vs.flatMap encN)) := by
  refine Sp_of (fn := f40) rfl (show W T b40 [.ptr p 0, .slc q 0 vs.length 1, .tup [], .tup [], .tup [], .tup [], .tup [], .tup [], .tup [], .tup [], .tup [], .tup [], .tup [], .tup [], .tup [], .tup [], .tup [], .tup [], .tup [], .tup [], .tup []] _ _ from ?_)
  unfold b40
  repeat' (first | (refine wNil ?_) | (refine xPure ?_) | (refine xMk ?_; intro id hid; (try simp only [set_none_iff] at hid); refine mkDo ?_) | (refine xChk ?_) | (refine xChkF ?_) | (refine xSkip ?_) | (refine cSeq ?_) | (refine cNorm ?_) | (refine cRet ?_) | (refine cExit ?_) | (refine W_reg rfl ?_) | (refine W_block ?_) | (refine W_ret ?_) | (refine W_skip ?_) | (refine W_exit ?_) | (refine bNorm ?_) | (refine bRet ?_) | (refine bExit ?_) | (refine bExitN rfl ?_) | (refine xMask ?_) | (refine xT ?_) | (refine xF ?_) | (refine xRet ?_) | (refine xNorm ?_) | (refine xSplit ?_ ?_ <;> intro hb <;> (try exact False.elim hb)) | (refine xCond ?_ ?_ <;> intro hb <;> (try exact False.elim hb)))
  refine W_loop (fun m tm h' => ∃ k, k + m = vs.length ∧ Wr h0 p h' (l ++ (vs.take k).flatMap encN) ∧ keep [0, 7, 8, 9] 0 tm = [.ptr p 0, .und, .und, .und, .und, .und, .und, .slc q 0 vs.length 1, .int .i64 vs.length, .int .i64 (k : Int), .und, .und, .und, .und, .und, .und, .und, .und, .und, .und, .und]) vs.length ⟨0, by omega, by simpa using hw, rfl⟩ ?_
  clear hw
  rintro m tm h' ⟨k, hk, hw, htm⟩
  refine cSeq (cMask (cNorm ?_))
  rw [htm]; clear htm
  by_cases hm : k < vs.length
  · have d1 : (k : Int) < (vs.length : Int) := by omega
    obtain ⟨v, hv⟩ : ∃ v, vs[k]? = some v := ⟨_, List.getElem?_eq_getElem hm⟩
    have g1 := hw.get hq
    have g2 : (vs.map fun (v : Int) => (AV.int .i64 v))[k]? = some (AV.int .i64 v) := by rw [List.getElem?_map, hv]; rfl
    have d4 : IntKind.i64.wrap ((k : Int) + 1) = ((k + 1 : Nat) : Int) := by rw [wrap64 (by omega) (by omega)]; rfl
    have d7 := take_enc encN l hv
    have d8 := pre_len encN vs k v hv
    obtain ⟨l', hl'⟩ : ∃ l', l ++ (vs.take k).flatMap encN = l' := ⟨_, rfl⟩
    rw [hl'] at hw d7
    have d9 : l'.length + (encN v).length ≤ 1099511627776 := by rw [← hl', List.length_append]; rw [List.length_append] at hl; omega
    clear hl' d8
    have b1 := hb v (List.mem_of_getElem? hv)
    have d5 : (if v < 0 then 0 else v) = (v.toNat : Int) := by split <;> omega
    have d6 : IntKind.u64.wrap (v.toNat : Int) = (v.toNat : Int) := wrapU64 (by omega) (by omega)
    repeat' (first | (refine wNil ?_) | (refine xPure ?_) | (refine xMk ?_; intro id hid; (try simp only [set_none_iff] at hid); refine mkDo ?_) | (refine xChk ?_) | (refine xChkF ?_) | (refine xSkip ?_) | (refine xCall rfl rfl (sp30 (h0.set id (some ⟨true, [v.toNat].map fun (v : Nat) => AV.int .u64 (v : Int)⟩)) p id true l' [v.toNat] _ (hw.new hid) set_same (by simp only [List.flatMap_cons, List.flatMap_nil, List.append_nil, List.length_append]; exact d9) (by simp)) ?_; rintro r h2 ⟨rfl, hW3⟩; have hW2 : Wr h0 p h2 (l' ++ encN v) := (by have := Wr.drop hW3 (hw.1.no hid); simp only [List.flatMap_cons, List.flatMap_nil, List.append_nil] at this; exact this); refine nTm ?_) | (refine cSeq ?_) | (refine cNorm ?_) | (refine cRet ?_) | (refine cExit ?_) | (refine W_reg rfl ?_) | (refine W_block ?_) | (refine W_ret ?_) | (refine W_skip ?_) | (refine W_exit ?_) | (refine bNorm ?_) | (refine bRet ?_) | (refine bExit ?_) | (refine bExitN rfl ?_) | (refine xMask ?_) | (refine xT ?_) | (refine xF ?_) | (refine xRet ?_) | (refine xNorm ?_) | (refine xSplit ?_ ?_ <;> intro hb <;> (try exact False.elim hb)) | (refine xCond ?_ ?_ <;> intro hb <;> (try exact False.elim hb)))
    all_goals exact ⟨m - 1, by omega, k + 1, by omega, by rw [d7]; exact hW2, by simp only [keep, List.contains_cons, List.contains_nil, Nat.reduceBEq, Bool.or_true, Bool.true_or, Bool.or_false, Bool.false_or, if_true, if_false, Bool.false_eq_true, beq_self_eq_true, Nat.zero_add, Nat.reduceAdd, eq_self]⟩
  · have d1 : ¬ (k : Int) < (vs.length : Int) := by omega
    repeat' (first | (refine wNil ?_) | (refine xPure ?_) | (refine xMk ?_; intro id hid; (try simp only [set_none_iff] at hid); refine mkDo ?_) | (refine xChk ?_) | (refine xChkF ?_) | (refine xSkip ?_) | (refine cSeq ?_) | (refine cNorm ?_) | (refine cRet ?_) | (refine cExit ?_) | (refine W_reg rfl ?_) | (refine W_block ?_) | (refine W_ret ?_) | (refine W_skip ?_) | (refine W_exit ?_) | (refine bNorm ?_) | (refine bRet ?_) | (refine bExit ?_) | (refine bExitN rfl ?_) | (refine xMask ?_) | (refine xT ?_) | (refine xF ?_) | (refine xRet ?_) | (refine xNorm ?_) | (refine xSplit ?_ ?_ <;> intro hb <;> (try exact False.elim hb)) | (refine xCond ?_ ?_ <;> intro hb <;> (try exact False.elim hb)))
    all_goals (rw [List.take_of_length_le (by omega)] at hw; exact ⟨rfl, hw⟩)
/-- (*Writer).B -/
theorem sp42 (h0 : AH) (p q : List Nat) (ob : Bool) (l : List UInt8) (vs : List Bool) (h : AH) (hw : Wr h0 p h l) (hq : h0 q = some ⟨ob, vs.map fun (v : Bool) => (AV.bool v)⟩) (hl : (l ++ vs.flatMap encB).length ≤ 1099511627776) (hn : vs.length ≤ 1099511627776) :
    Sp T 42 [.ptr p 0, .slc q 0 vs.length 1] h (fun r h' => r = .ptr p 0 ∧ Wr h0 p h' (l ++ vs.flatMap encB)) := by
  refine Sp_of (fn := f42) rfl (show W T b42 [.ptr p 0, .slc q 0 vs.length 1, .tup [], .tup [], .tup [], .tup [], .tup [], .tup [], .tup [], .tup [], .tup [], .tup [], .tup [], .tup [], .tup [], .tup [], .tup [], .tup [], .tup [], .tup [], .tup [], .tup [], .tup [], .tup [], .tup [], .tup [], .tup []] _ _ from ?_)
  unfold b42
  repeat' (first | (refine wNil ?_) | (refine xPure ?_) | (refine xMk ?_; intro id hid; (try simp only [set_none_iff] at hid); refine mkDo ?_) | (refine xChk ?_) | (refine xChkF ?_) | (refine xSkip ?_) | (refine cSeq ?_) | (refine cNorm ?_) | (refine cRet ?_) | (refine cExit ?_) | (refine W_reg rfl ?_) | (refine W_block ?_) | (refine W_ret ?_) | (refine W_skip ?_) | (refine W_exit ?_) | (refine bNorm ?_) | (refine bRet ?_) | (refine bExit ?_) | (refine bExitN rfl ?_) | (refine xMask ?_) | (refine xT ?_) | (refine xF ?_) | (refine xRet ?_) | (refine xNorm ?_) | (refine xSplit ?_ ?_ <;> intro hb <;> (try exact False.elim hb)) | (refine xCond ?_ ?_ <;> intro hb <;> (try exact False.elim hb)))
  refine W_loop (fun m tm h' => ∃ k, k + m = vs.length ∧ Wr h0 p h' (l ++ (vs.take k).flatMap encB) ∧ keep [0, 8, 9, 10] 0 tm = [.ptr p 0, .und, .und, .und, .und, .und, .und, .und, .slc q 0 vs.length 1, .int .i64 vs.length, .int .i64 (k : Int), .und, .und, .und, .und, .und, .und, .und, .und, .und, .und, .und, .und, .und, .und, .und, .und]) vs.length ⟨0, by omega, by simpa using hw, rfl⟩ ?_
  clear hw
  rintro m tm h' ⟨k, hk, hw, htm⟩
  refine cSeq (cMask (cNorm ?_))
  rw [htm]; clear htm
  by_cases hm : k < vs.length
  · have d1 : (k : Int) < (vs.length : Int) := by omega
    obtain ⟨v, hv⟩ : ∃ v, vs[k]? = some v := ⟨_, List.getElem?_eq_getElem hm⟩
    have g1 := hw.get hq
    have g2 : (vs.map fun (v : Bool) => (AV.bool v))[k]? = some (AV.bool v) := by rw [List.getElem?_map, hv]; rfl
    have d4 : IntKind.i64.wrap ((k : Int) + 1) = ((k + 1 : Nat) : Int) := by rw [wrap64 (by omega) (by omega)]; rfl
    have d7 := take_enc encB l hv
    have d8 := pre_len encB vs k v hv
    obtain ⟨l', hl'⟩ : ∃ l', l ++ (vs.take k).flatMap encB = l' := ⟨_, rfl⟩
    rw [hl'] at hw d7
    have d9 : l'.length + (encB v).length ≤ 1099511627776 := by rw [← hl', List.length_append]; rw [List.length_append] at hl; omega
    clear hl' d8
    obtain ⟨S, hp, hS⟩ := wr_open hw
    have d5 : (encB v).length = 1 := rfl
    cases v
    · repeat' (first | (refine wNil ?_) | (refine xPure ?_) | (refine xMk ?_; intro id hid; (try simp only [set_none_iff] at hid); have hz := hid; (repeat (replace hz := hz.2)); (try have := nei hp hz); refine mkDo ?_) | (refine xChk ?_) | (refine xChkF ?_) | (refine xSkip ?_) | (refine wMk rfl (by (first | (simp only [go_sem, *]; (first | done | exact rfl)) | rfl)) rfl ?_; intro id hid; obtain ⟨h2, hA, hk, hW⟩ := app_step (m := [0]) hw hp hS (by (first | exact Up.refl _ | exact Up.new (Up.refl _) (by assumption))) hid (by simp) (roomy (by simp only [List.length_cons, List.length_nil]; omega)); refine ⟨(_, h2), (by simp only [go_sem, aslice, *]; (first | done | exact hA)), ?_⟩; clear hA; (try simp only [List.length_cons, List.length_nil, Nat.zero_add] at hW); dsimp only [putT, ev, Int.toNat_zero, Nat.sub_zero, Int.toNat_natCast,  gd_zero, gd_succ, Nat.zero_add, Nat.add_zero, Nat.reduceAdd, Nat.reduceMul, List.set_cons_zero, List.set_cons_succ, keep, List.contains_cons, List.contains_nil]) | (refine cSeq ?_) | (refine cNorm ?_) | (refine cRet ?_) | (refine cExit ?_) | (refine W_reg rfl ?_) | (refine W_block ?_) | (refine W_ret ?_) | (refine W_skip ?_) | (refine W_exit ?_) | (refine bNorm ?_) | (refine bRet ?_) | (refine bExit ?_) | (refine bExitN rfl ?_) | (refine xMask ?_) | (refine xT ?_) | (refine xF ?_) | (refine xRet ?_) | (refine xNorm ?_) | (refine xSplit ?_ ?_ <;> intro hb <;> (try exact False.elim hb)) | (refine xCond ?_ ?_ <;> intro hb <;> (try exact False.elim hb)))
      all_goals exact ⟨m - 1, by omega, k + 1, by omega, by rw [d7]; exact hW, by simp only [keep, List.contains_cons, List.contains_nil, Nat.reduceBEq, Bool.or_true, Bool.true_or, Bool.or_false, Bool.false_or, if_true, if_false, Bool.false_eq_true, beq_self_eq_true, Nat.zero_add, Nat.reduceAdd, eq_self]⟩
    · repeat' (first | (refine wNil ?_) | (refine xPure ?_) | (refine xMk ?_; intro id hid; (try simp only [set_none_iff] at hid); have hz := hid; (repeat (replace hz := hz.2)); (try have := nei hp hz); refine mkDo ?_) | (refine xChk ?_) | (refine xChkF ?_) | (refine xSkip ?_) | (refine wMk rfl (by (first | (simp only [go_sem, *]; (first | done | exact rfl)) | rfl)) rfl ?_; intro id hid; obtain ⟨h2, hA, hk, hW⟩ := app_step (m := [1]) hw hp hS (by (first | exact Up.refl _ | exact Up.new (Up.refl _) (by assumption))) hid (by simp) (roomy (by simp only [List.length_cons, List.length_nil]; omega)); refine ⟨(_, h2), (by simp only [go_sem, aslice, *]; (first | done | exact hA)), ?_⟩; clear hA; (try simp only [List.length_cons, List.length_nil, Nat.zero_add] at hW); dsimp only [putT, ev, Int.toNat_zero, Nat.sub_zero, Int.toNat_natCast,  gd_zero, gd_succ, Nat.zero_add, Nat.add_zero, Nat.reduceAdd, Nat.reduceMul, List.set_cons_zero, List.set_cons_succ, keep, List.contains_cons, List.contains_nil]) | (refine cSeq ?_) | (refine cNorm ?_) | (refine cRet ?_) | (refine cExit ?_) | (refine W_reg rfl ?_) | (refine W_block ?_) | (refine W_ret ?_) | (refine W_skip ?_) | (refine W_exit ?_) | (refine bNorm ?_) | (refine bRet ?_) | (refine bExit ?_) | (refine bExitN rfl ?_) | (refine xMask ?_) | (refine xT ?_) | (refine xF ?_) | (refine xRet ?_) | (refine xNorm ?_) | (refine xSplit ?_ ?_ <;> intro hb <;> (try exact False.elim hb)) | (refine xCond ?_ ?_ <;> intro hb <;> (try exact False.elim hb)))
      all_goals exact ⟨m - 1, by omega, k + 1, by omega, by rw [d7]; exact hW, by simp only [keep, List.contains_cons, List.contains_nil, Nat.reduceBEq, Bool.or_true, Bool.true_or, Bool.or_false, Bool.false_or, if_true, if_false, Bool.false_eq_true, beq_self_eq_true, Nat.zero_add, Nat.reduceAdd, eq_self]⟩
  · have d1 : ¬ (k : Int) < (vs.length : Int) := by omega
    repeat' (first | (refine wNil ?_) | (refine xPure ?_) | (refine xMk ?_; intro id hid; (try simp only [set_none_iff] at hid); refine mkDo ?_) | (refine xChk ?_) | (refine xChkF ?_) | (refine xSkip ?_) | (refine cSeq ?_) | (refine cNorm ?_) | (refine cRet ?_) | (refine cExit ?_) | (refine W_reg rfl ?_) | (refine W_block ?_) | (refine W_ret ?_) | (refine W_skip ?_) | (refine W_exit ?_) | (refine bNorm ?_) | (refine bRet ?_) | (refine bExit ?_) | (refine bExitN rfl ?_) | (refine xMask ?_) | (refine xT ?_) | (refine xF ?_) | (refine xRet ?_) | (refine xNorm ?_) | (refine xSplit ?_ ?_ <;> intro hb <;> (try exact False.elim hb)) | (refine xCond ?_ ?_ <;> intro hb <;> (try exact False.elim hb)))
    all_goals (rw [List.take_of_length_le (by omega)] at hw; exact ⟨rfl, hw⟩)
/-- (*Writer).S -/
theorem sp41 (h0 : AH) (p q : List Nat) (ob : Bool) (l : List UInt8) (vs : List ByteArray) (h : AH) (hw : Wr h0 p h l) (hq : h0 q = some ⟨ob, vs.map fun (v : ByteArray) => (AV.str v)⟩) (hl : (l ++ vs.flatMap encT).length ≤ 1099511627776) (hn : vs.length ≤ 1099511627776) :
    Sp T 41 [.ptr p 0, .slc q 0 vs.length 1] h (fun r h' => r = .ptr p 0 ∧ Wr h0 p h' (l ++ vs.flatMap encT)) := by
  refine Sp_of (fn := f41) rfl (show W T b41 [.ptr p 0, .slc q 0 vs.length 1, .tup [], .tup [], .tup [], .tup [], .tup [], .tup [], .tup [], .tup [], .tup [], .tup [], .tup [], .tup [], .tup [], .tup [], .tup [], .tup [], .tup [], .tup [], .tup [], .tup [], .tup [], .tup [], .tup [], .tup [], .tup [], .tup [], .tup []] _ _ from ?_)
  unfold b41
  repeat' (first | (refine wNil ?_) | (refine xPure ?_) | (refine xMk ?_; intro id hid; (try simp only [set_none_iff] at hid); refine mkDo ?_) | (refine xChk ?_) | (refine xChkF ?_) | (refine xSkip ?_) | (refine cSeq ?_) | (refine cNorm ?_) | (refine cRet ?_) | (refine cExit ?_) | (refine W_reg rfl ?_) | (refine W_block ?_) | (refine W_ret ?_) | (refine W_skip ?_) | (refine W_exit ?_) | (refine bNorm ?_) | (refine bRet ?_) | (refine bExit ?_) | (refine bExitN rfl ?_) | (refine xMask ?_) | (refine xT ?_) | (refine xF ?_) | (refine xRet ?_) | (refine xNorm ?_) | (refine xSplit ?_ ?_ <;> intro hb <;> (try exact False.elim hb)) | (refine xCond ?_ ?_ <;> intro hb <;> (try exact False.elim hb)))
  refine W_loop (fun m tm h' => ∃ k, k + m = vs.length ∧ Wr h0 p h' (l ++ (vs.take k).flatMap encT) ∧ keep [0, 7, 8, 9] 0 tm = [.ptr p 0, .und, .und, .und, .und, .und, .und, .slc q 0 vs.length 1, .int .i64 vs.length, .int .i64 (k : Int), .und, .und, .und, .und, .und, .und, .und, .und, .und, .und, .und, .und, .und, .und, .und, .und, .und, .und, .und]) vs.length ⟨0, by omega, by simpa using hw, rfl⟩ ?_
  clear hw
  rintro m tm h' ⟨k, hk, hw, htm⟩
  refine cSeq (cMask (cNorm ?_))
  rw [htm]; clear htm
  by_cases hm : k < vs.length
  · have d1 : (k : Int) < (vs.length : Int) := by omega
    obtain ⟨v, hv⟩ : ∃ v, vs[k]? = some v := ⟨_, List.getElem?_eq_getElem hm⟩
    have g1 := hw.get hq
    have g2 : (vs.map fun (v : ByteArray) => (AV.str v))[k]? = some (AV.str v) := by rw [List.getElem?_map, hv]; rfl
    have d4 : IntKind.i64.wrap ((k : Int) + 1) = ((k + 1 : Nat) : Int) := by rw [wrap64 (by omega) (by omega)]; rfl
    have d7 := take_enc encT l hv
    have d8 := pre_len encT vs k v hv
    obtain ⟨l', hl'⟩ : ∃ l', l ++ (vs.take k).flatMap encT = l' := ⟨_, rfl⟩
    rw [hl'] at hw d7
    have d9 : l'.length + (encT v).length ≤ 1099511627776 := by rw [← hl', List.length_append]; rw [List.length_append] at hl; omega
    clear hl' d8
    have b0 : v.data.toList.length = v.size := rfl
    have b1 : (encT v).length = (encN v.size).length + v.size := by show (encN v.data.toList.length ++ v.data.toList).length = _; rw [List.length_append, b0]
    have b5 : l' ++ encT v = l' ++ encN v.size ++ v.data.toList := by rw [List.append_assoc]; rfl
    simp only [b1] at d9
    have b2 : ∀ x ∈ [(v.size : Int)], x ≤ 9223372036854775807 := by simp; omega
    have b4 : (l' ++ [(v.size : Int)].flatMap encN).length ≤ 1099511627776 := by simp only [List.flatMap_cons, List.flatMap_nil, List.append_nil, List.length_append]; omega
    have b6 : (l' ++ encN v.size).length + v.data.toList.length ≤ roomMost := roomy (by rw [List.length_append]; omega)
    by_cases hv0 : v.data.toList = []
    · have hz' : Hid (v.size = 0) := by show v.size = 0; rw [← b0, hv0]; rfl
      have b7 : l' ++ encT v = l' ++ encN v.size := by rw [b5, hv0, List.append_nil]
      clear b0 b1 hv0
      repeat' (first | (refine wNil ?_) | (refine wPure rfl (by (first | (simp only [go_sem, aapp, *]; (first | done | exact rfl)) | rfl)) rfl (by (first | (simp only [go_sem, aapp, *]; (first | done | exact rfl)) | rfl)) ?_; dsimp only [putT, ev, Int.toNat_zero, Nat.sub_zero, Int.toNat_natCast,  gd_zero, gd_succ, Nat.zero_add, Nat.add_zero, Nat.reduceAdd, Nat.reduceMul, List.set_cons_zero, List.set_cons_succ, keep, List.contains_cons, List.contains_nil]) | (refine wMk rfl (by (first | (simp only [go_sem, aapp, *]; (first | done | exact rfl)) | rfl)) rfl ?_; intro id hid; (try simp only [set_none_iff] at hid); refine ⟨_, (by (first | (simp only [go_sem, aapp, *]; (first | done | exact rfl)) | rfl)), ?_⟩; dsimp only [putT, ev, Int.toNat_zero, Nat.sub_zero, Int.toNat_natCast,  gd_zero, gd_succ, Nat.zero_add, Nat.add_zero, Nat.reduceAdd, Nat.reduceMul, List.set_cons_zero, List.set_cons_succ, keep, List.contains_cons, List.contains_nil]) | (refine wChk rfl (by (first | (simp only [go_sem, aapp, *]; (first | done | exact rfl)) | rfl)) rfl (by (first | (simp only [go_sem, aapp, *]; (first | done | exact rfl)) | rfl)) rfl ?_) | (refine wChkF rfl (by (first | (simp only [go_sem, aapp, *]; (first | done | exact rfl)) | rfl)) rfl ?_) | (refine wSkip rfl (by (first | (simp only [go_sem, aapp, *]; (first | done | exact rfl)) | rfl)) ?_; dsimp only [putT, ev, Int.toNat_zero, Nat.sub_zero, Int.toNat_natCast,  gd_zero, gd_succ, Nat.zero_add, Nat.add_zero, Nat.reduceAdd, Nat.reduceMul, List.set_cons_zero, List.set_cons_succ, keep, List.contains_cons, List.contains_nil]) | (refine wCall rfl (by (first | (simp only [awanted, gd_zero, gd_succ, beq_self_eq_true, beq_true, beq_false, Bool.not_true, Bool.not_false, *]; done) | rfl)) rfl (Sp.mono (sp40 (h0.set id (some ⟨true, [(v.size : Int)].map fun (v : Int) => AV.int .i64 v⟩)) p id true l' [(v.size : Int)] _ (hw.new hid) set_same b2 b4 (by simp)) ?_); rintro r h3 ⟨rfl, hW3⟩; have hw2 : Wr h0 p h3 (l' ++ encN v.size) := (by have := Wr.drop hW3 (hw.1.no hid); simp only [List.flatMap_cons, List.flatMap_nil, List.append_nil] at this; exact this); obtain ⟨S2, hp2, hS2⟩ := wr_open hw2; have hz : v.size = 0 := hz'; rcases hS2 with ⟨rfl, hl2⟩ | ⟨i2, i21, i22, rfl, i24⟩ <;> dsimp only [putT, ev, Int.toNat_zero, Nat.sub_zero, Int.toNat_natCast,  gd_zero, gd_succ, Nat.zero_add, Nat.add_zero, Nat.reduceAdd, Nat.reduceMul, List.set_cons_zero, List.set_cons_succ, keep, List.contains_cons, List.contains_nil]) | (refine cSeq ?_) | (refine cNorm ?_) | (refine cRet ?_) | (refine cExit ?_) | (refine W_reg rfl ?_) | (refine W_block ?_) | (refine W_ret ?_) | (refine W_skip ?_) | (refine W_exit ?_) | (refine bNorm ?_) | (refine bRet ?_) | (refine bExit ?_) | (refine bExitN rfl ?_) | (refine cMask' (by simp only [keep, List.contains_cons, List.contains_nil, Nat.reduceBEq, Bool.or_true, Bool.true_or, Bool.or_false, Bool.false_or, if_true, if_false, Bool.false_eq_true, beq_self_eq_true, Nat.zero_add, Nat.reduceAdd, eq_self]; exact rfl) ?_) | (refine cT (by (first | (simp only [go_sem, aapp, *]; (first | done | exact rfl)) | rfl)) ?_) | (refine cF (by (first | (simp only [go_sem, aapp, *]; (first | done | exact rfl)) | rfl)) ?_) | (refine rRet (by (first | (simp only [go_sem, aapp, *]; (first | done | exact rfl)) | rfl)) ?_) | (refine rNorm (by (first | (simp only [go_sem, aapp, *]; (first | done | exact rfl)) | rfl)) ?_) | (refine wSplit _ rfl (by (first | (simp only [go_sem, aapp, *]; (first | done | exact rfl)) | rfl)) ?_ ?_ <;> intro hb <;> (try simp only [beq_false, beq_true, Bool.not_true, Bool.not_false, Bool.not_eq_true', Bool.not_eq_false', decide_eq_false_iff_not, decide_eq_true_eq, bne_iff_ne, beq_iff_eq, Bool.true_eq, Bool.false_eq, Bool.not_not, Bool.and_eq_true, Bool.or_eq_true, Bool.bne_true, Bool.bne_false, bne_eq_false_iff_eq, beq_eq_false_iff_ne, ne_eq] at hb)) | (refine W_cond _ (by (first | (simp only [go_sem, aapp, *]; (first | done | exact rfl)) | rfl)) ?_ ?_ <;> intro hb <;> (try simp only [beq_false, beq_true, Bool.not_true, Bool.not_false, Bool.not_eq_true', Bool.not_eq_false', decide_eq_false_iff_not, decide_eq_true_eq, bne_iff_ne, beq_iff_eq, Bool.true_eq, Bool.false_eq, Bool.not_not, Bool.and_eq_true, Bool.or_eq_true, Bool.bne_true, Bool.bne_false, bne_eq_false_iff_eq, beq_eq_false_iff_ne, ne_eq] at hb)))
      all_goals exact ⟨m - 1, by omega, k + 1, by omega, by rw [d7]; simp only [hz] at hw2 hp2 b7; rw [b7]; exact wr_same hw2 hp2, by simp only [keep, List.contains_cons, List.contains_nil, Nat.reduceBEq, Bool.or_true, Bool.true_or, Bool.or_false, Bool.false_or, if_true, if_false, Bool.false_eq_true, beq_self_eq_true, Nat.zero_add, Nat.reduceAdd, eq_self]⟩
    · repeat' (first | (refine wNil ?_) | (refine xPure ?_) | (refine xMk ?_; intro id hid; (try simp only [set_none_iff] at hid); have hz := hid; (repeat (replace hz := hz.2)); (try have := nei hp2 hz); refine mkDo ?_) | (refine xChk ?_) | (refine xChkF ?_) | (refine xSkip ?_) | (refine wCall rfl (by (first | (simp only [awanted, gd_zero, gd_succ, beq_self_eq_true, beq_true, beq_false, Bool.not_true, Bool.not_false, *]; done) | rfl)) rfl (Sp.mono (sp40 (h0.set id (some ⟨true, [(v.size : Int)].map fun (v : Int) => AV.int .i64 v⟩)) p id true l' [(v.size : Int)] _ (hw.new hid) set_same b2 b4 (by simp)) ?_); rintro r h3 ⟨rfl, hW3⟩; have hw2 : Wr h0 p h3 (l' ++ encN v.size) := (by have := Wr.drop hW3 (hw.1.no hid); simp only [List.flatMap_cons, List.flatMap_nil, List.append_nil] at this; exact this); obtain ⟨S2, hp2, hS2⟩ := wr_open hw2; dsimp only [putT, ev, Int.toNat_zero, Nat.sub_zero, Int.toNat_natCast,  gd_zero, gd_succ, Nat.zero_add, Nat.add_zero, Nat.reduceAdd, Nat.reduceMul, List.set_cons_zero, List.set_cons_succ, keep, List.contains_cons, List.contains_nil]) | (refine wMk rfl (by (first | (simp only [go_sem, *]; (first | done | exact rfl)) | rfl)) rfl ?_; intro id hid; obtain ⟨h2, hA, hk, hW⟩ := app_step (m := v.data.toList) hw2 hp2 hS2 (by (first | exact Up.refl _ | exact Up.new (Up.refl _) (by assumption))) hid hv0 b6; refine ⟨(_, h2), (by simp only [go_sem, aslice, *]; (first | done | exact hA)), ?_⟩; clear hA; (try simp only [List.length_cons, List.length_nil, Nat.zero_add] at hW); dsimp only [putT, ev, Int.toNat_zero, Nat.sub_zero, Int.toNat_natCast,  gd_zero, gd_succ, Nat.zero_add, Nat.add_zero, Nat.reduceAdd, Nat.reduceMul, List.set_cons_zero, List.set_cons_succ, keep, List.contains_cons, List.contains_nil]) | (refine cSeq ?_) | (refine cNorm ?_) | (refine cRet ?_) | (refine cExit ?_) | (refine W_reg rfl ?_) | (refine W_block ?_) | (refine W_ret ?_) | (refine W_skip ?_) | (refine W_exit ?_) | (refine bNorm ?_) | (refine bRet ?_) | (refine bExit ?_) | (refine bExitN rfl ?_) | (refine xMask ?_) | (refine xT ?_) | (refine xF ?_) | (refine xRet ?_) | (refine xNorm ?_) | (refine xSplit ?_ ?_ <;> intro hb <;> (try exact False.elim hb)) | (refine xCond ?_ ?_ <;> intro hb <;> (try exact False.elim hb)))
      all_goals exact ⟨m - 1, by omega, k + 1, by omega, by rw [d7]; exact b5 ▸ hW, by simp only [keep, List.contains_cons, List.contains_nil, Nat.reduceBEq, Bool.or_true, Bool.true_or, Bool.or_false, Bool.false_or, if_true, if_false, Bool.false_eq_true, beq_self_eq_true, Nat.zero_add, Nat.reduceAdd, eq_self]⟩
  · have d1 : ¬ (k : Int) < (vs.length : Int) := by omega
    repeat' (first | (refine wNil ?_) | (refine xPure ?_) | (refine xMk ?_; intro id hid; (try simp only [set_none_iff] at hid); refine mkDo ?_) | (refine xChk ?_) | (refine xChkF ?_) | (refine xSkip ?_) | (refine cSeq ?_) | (refine cNorm ?_) | (refine cRet ?_) | (refine cExit ?_) | (refine W_reg rfl ?_) | (refine W_block ?_) | (refine W_ret ?_) | (refine W_skip ?_) | (refine W_exit ?_) | (refine bNorm ?_) | (refine bRet ?_) | (refine bExit ?_) | (refine bExitN rfl ?_) | (refine xMask ?_) | (refine xT ?_) | (refine xF ?_) | (refine xRet ?_) | (refine xNorm ?_) | (refine xSplit ?_ ?_ <;> intro hb <;> (try exact False.elim hb)) | (refine xCond ?_ ?_ <;> intro hb <;> (try exact False.elim hb)))
    all_goals (rw [List.take_of_length_le (by omega)] at hw; exact ⟨rfl, hw⟩)
end Go.Proofs.YtgekngfnhhdamaaI
