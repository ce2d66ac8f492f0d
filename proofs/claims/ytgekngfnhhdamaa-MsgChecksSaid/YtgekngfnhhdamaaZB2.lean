/- What the statement's proof needs (joined out of several texts); no conditions. -/
import Derived.Test.YtgekngfnhhdamaaZB1
import Derived.Test.YtgekngfnhhdamaaM31
import Derived.Test.YtgekngfnhhdamaaM33
import Derived.Test.YtgekngfnhhdamaaM34
set_option linter.unusedVariables false
set_option linter.unusedSimpArgs false
set_option maxRecDepth 100000
set_option maxHeartbeats 4000000
namespace Go.Proofs.YtgekngfnhhdamaaI
open Go Go.Proofs.YtgekngfnhhdamaaM
attribute [local go_sem] aop ev fg_slc fg_slk fg_ptr fg_bool fg_int fg_str fg_iface fg_func fg_agg fg_tup fg_nils fg_nilp fg_nilI fg_nilF fg_und aboundsK alen_nils alen_slc alen_slk aslice_nils aslice_slc aslice_slk awanted abin aun aint aeqn aeqc aeqs apart abounds abnd amaxi amaxiGo cells_agg cells_slc cells_slk cells_ptr cells_bool cells_int cells_str cells_iface cells_func cells_tup cells_nils cells_nilp cells_nilI cells_nilF cells_und sc_slc sc_slk sc_ptr sc_bool sc_int sc_str sc_iface sc_func sc_nils sc_nilp sc_nilI sc_nilF gd_zero gd_succ List.all_cons List.all_nil Bool.and_self Bool.and_true Bool.true_and List.length_cons List.length_nil Option.map_some Option.some.injEq cell_same cell_ne cell_ne' cellsAt_same cellsAt_ne cellsAt_ne' put_same put_of set_same set_ne set_ne' List.getElem?_cons_zero List.getElem?_cons_succ if_true if_false and_self and_true true_and ne_eq not_true_eq_false not_false_eq_true decide_true decide_false Bool.false_eq_true Bool.true_eq_false beq_self_eq_true bne_self_eq_false beq_true beq_false Bool.not_true Bool.not_false List.map_cons List.map_nil putL List.set_cons_zero List.set_cons_succ afill Nat.zero_le Nat.le_refl Nat.zero_add Nat.add_zero List.drop_zero List.drop_succ_cons List.take_zero List.take_succ_cons Bool.not_eq_true Bool.not_eq_false decide_eq_true_eq decide_eq_false_iff_not Int.toNat_zero Nat.sub_zero Int.toNat_natCast Bool.bne_true Bool.bne_false AH.cell AH.cellsAt AH.put Nat.mul_one Nat.one_mul Int.natCast_nonneg List.length_set bs_append bs_size bs_toList bs_extract bs_get List.cons_append List.nil_append List.append_nil Nat.sub_zero bne_self_eq_false beq_self_eq_true azeros Int.le_refl
theorem T_cl : ∀ f fn, T f = some fn → closedF fn = true := by
  intro f fn h
  unfold T at h
  split at h <;> cases h <;> (first | decide +kernel | rfl)
theorem sp45 (h : AH) : Sp T 45 [] h (fun r h' => r = .bool true ∧ Up h h') := Sp_run (n := 1000) T_cl rfl rfl (by decide +kernel) h
/-- among -/
theorem sp70 (n lo hi : Int) (h : AH) : Sp T 70 [.int .i64 n, .int .i64 lo, .int .i64 hi] h (fun v h' => v = .bool (decide (lo ≤ n ∧ n ≤ hi)) ∧ h' = h) := by
  by_cases c1 : n ≥ lo
  · by_cases c2 : n ≤ hi
    · refine Sp_of (fn := f70) rfl (show W T b70 [.int .i64 n, .int .i64 lo, .int .i64 hi, .tup [], .tup [], .tup [], .tup [], .tup [], .tup [], .tup [], .tup [], .tup [], .tup [], .tup [], .tup []] _ _ from ?_)
      unfold b70
      repeat' (first
        | (refine wNil ?_) | (refine xPure ?_)
        | (refine xMk ?_; intro id hid; (try simp only [set_none_iff] at hid); refine mkDo ?_)
        | (refine xChk ?_) | (refine xChkF ?_) | (refine xSkip ?_)
        | (refine cSeq ?_) | (refine cNorm ?_) | (refine cRet ?_) | (refine cExit ?_) | (refine W_reg rfl ?_) | (refine W_block ?_) | (refine W_ret ?_) | (refine W_skip ?_) | (refine W_exit ?_) | (refine bNorm ?_) | (refine bRet ?_) | (refine bExit ?_) | (refine bExitN rfl ?_)
        | (refine xMask ?_) | (refine xT ?_) | (refine xF ?_) | (refine xRet ?_) | (refine xNorm ?_)
        | (refine wSplit _ rfl (by (first | (simp only [go_sem, *]; (first | done | exact rfl)) | rfl)) ?_ ?_ <;> intro hb <;> (try simp only [beq_false, beq_true, Bool.not_true, Bool.not_false, Bool.not_eq_true', Bool.not_eq_false', decide_eq_false_iff_not, decide_eq_true_eq, bne_iff_ne, beq_iff_eq, Bool.true_eq, Bool.false_eq, Bool.not_not, Bool.and_eq_true, Bool.or_eq_true, Bool.bne_true, Bool.bne_false, bne_eq_false_iff_eq, beq_eq_false_iff_ne, ne_eq] at hb))
        | (refine W_cond _ (by (first | (simp only [go_sem, *]; (first | done | exact rfl)) | rfl)) ?_ ?_ <;> intro hb <;> (try simp only [beq_false, beq_true, Bool.not_true, Bool.not_false, Bool.not_eq_true', Bool.not_eq_false', decide_eq_false_iff_not, decide_eq_true_eq, bne_iff_ne, beq_iff_eq, Bool.true_eq, Bool.false_eq, Bool.not_not, Bool.and_eq_true, Bool.or_eq_true, Bool.bne_true, Bool.bne_false, bne_eq_false_iff_eq, beq_eq_false_iff_ne, ne_eq] at hb)))
      all_goals exact ⟨by rw [decide_eq_true (show lo ≤ n ∧ n ≤ hi from ⟨c1, c2⟩)]; rfl, rfl⟩
    · refine Sp_of (fn := f70) rfl (show W T b70 [.int .i64 n, .int .i64 lo, .int .i64 hi, .tup [], .tup [], .tup [], .tup [], .tup [], .tup [], .tup [], .tup [], .tup [], .tup [], .tup [], .tup []] _ _ from ?_)
      unfold b70
      repeat' (first
        | (refine wNil ?_) | (refine xPure ?_)
        | (refine xMk ?_; intro id hid; (try simp only [set_none_iff] at hid); refine mkDo ?_)
        | (refine xChk ?_) | (refine xChkF ?_) | (refine xSkip ?_)
        | (refine cSeq ?_) | (refine cNorm ?_) | (refine cRet ?_) | (refine cExit ?_) | (refine W_reg rfl ?_) | (refine W_block ?_) | (refine W_ret ?_) | (refine W_skip ?_) | (refine W_exit ?_) | (refine bNorm ?_) | (refine bRet ?_) | (refine bExit ?_) | (refine bExitN rfl ?_)
        | (refine xMask ?_) | (refine xT ?_) | (refine xF ?_) | (refine xRet ?_) | (refine xNorm ?_)
        | (refine wSplit _ rfl (by (first | (simp only [go_sem, *]; (first | done | exact rfl)) | rfl)) ?_ ?_ <;> intro hb <;> (try simp only [beq_false, beq_true, Bool.not_true, Bool.not_false, Bool.not_eq_true', Bool.not_eq_false', decide_eq_false_iff_not, decide_eq_true_eq, bne_iff_ne, beq_iff_eq, Bool.true_eq, Bool.false_eq, Bool.not_not, Bool.and_eq_true, Bool.or_eq_true, Bool.bne_true, Bool.bne_false, bne_eq_false_iff_eq, beq_eq_false_iff_ne, ne_eq] at hb))
        | (refine W_cond _ (by (first | (simp only [go_sem, *]; (first | done | exact rfl)) | rfl)) ?_ ?_ <;> intro hb <;> (try simp only [beq_false, beq_true, Bool.not_true, Bool.not_false, Bool.not_eq_true', Bool.not_eq_false', decide_eq_false_iff_not, decide_eq_true_eq, bne_iff_ne, beq_iff_eq, Bool.true_eq, Bool.false_eq, Bool.not_not, Bool.and_eq_true, Bool.or_eq_true, Bool.bne_true, Bool.bne_false, bne_eq_false_iff_eq, beq_eq_false_iff_ne, ne_eq] at hb)))
      all_goals exact ⟨by rw [decide_eq_false (fun hh : lo ≤ n ∧ n ≤ hi => c2 hh.2)]; rfl, rfl⟩
  · refine Sp_of (fn := f70) rfl (show W T b70 [.int .i64 n, .int .i64 lo, .int .i64 hi, .tup [], .tup [], .tup [], .tup [], .tup [], .tup [], .tup [], .tup [], .tup [], .tup [], .tup [], .tup []] _ _ from ?_)
    unfold b70
    repeat' (first
      | (refine wNil ?_) | (refine xPure ?_)
      | (refine xMk ?_; intro id hid; (try simp only [set_none_iff] at hid); refine mkDo ?_)
      | (refine xChk ?_) | (refine xChkF ?_) | (refine xSkip ?_)
      | (refine cSeq ?_) | (refine cNorm ?_) | (refine cRet ?_) | (refine cExit ?_) | (refine W_reg rfl ?_) | (refine W_block ?_) | (refine W_ret ?_) | (refine W_skip ?_) | (refine W_exit ?_) | (refine bNorm ?_) | (refine bRet ?_) | (refine bExit ?_) | (refine bExitN rfl ?_)
      | (refine xMask ?_) | (refine xT ?_) | (refine xF ?_) | (refine xRet ?_) | (refine xNorm ?_)
      | (refine wSplit _ rfl (by (first | (simp only [go_sem, *]; (first | done | exact rfl)) | rfl)) ?_ ?_ <;> intro hb <;> (try simp only [beq_false, beq_true, Bool.not_true, Bool.not_false, Bool.not_eq_true', Bool.not_eq_false', decide_eq_false_iff_not, decide_eq_true_eq, bne_iff_ne, beq_iff_eq, Bool.true_eq, Bool.false_eq, Bool.not_not, Bool.and_eq_true, Bool.or_eq_true, Bool.bne_true, Bool.bne_false, bne_eq_false_iff_eq, beq_eq_false_iff_ne, ne_eq] at hb))
      | (refine W_cond _ (by (first | (simp only [go_sem, *]; (first | done | exact rfl)) | rfl)) ?_ ?_ <;> intro hb <;> (try simp only [beq_false, beq_true, Bool.not_true, Bool.not_false, Bool.not_eq_true', Bool.not_eq_false', decide_eq_false_iff_not, decide_eq_true_eq, bne_iff_ne, beq_iff_eq, Bool.true_eq, Bool.false_eq, Bool.not_not, Bool.and_eq_true, Bool.or_eq_true, Bool.bne_true, Bool.bne_false, bne_eq_false_iff_eq, beq_eq_false_iff_ne, ne_eq] at hb)))
    all_goals exact ⟨by rw [decide_eq_false (fun hh : lo ≤ n ∧ n ≤ hi => c1 hh.1)]; rfl, rfl⟩
def snd (C : Nat) (n : Int) : Bool := decide ((0 ≤ n ∧ n ≤ 11) ∧ (n = 0 ∨ 0 < C))
/-- sound -/
theorem sp71 (C : Nat) (n : Int) (h : AH) : Sp T 71 [.agg [.int .u64 C, .int .i64 n]] h (fun v h' => v = .bool (snd C n) ∧ Up h h') := by
  by_cases c1 : 0 ≤ n ∧ n ≤ 11
  · have K0 := decide_eq_true c1
    by_cases c2 : n = 0
    · have c2' : (n == 0) = true := by simpa using c2
      have e : snd C n = true := decide_eq_true ⟨c1, .inl c2⟩
      rw [e]
      clear e c2 c1
      refine Sp_of (fn := f71) rfl (show W T b71 [.agg [.int .u64 C, .int .i64 n], .tup [], .tup [], .tup [], .tup [], .tup [], .tup [], .tup [], .tup [], .tup [], .tup [], .tup [], .tup [], .tup [], .tup [], .tup []] _ _ from ?_)
      unfold b71
      repeat' (first
        | (refine wNil ?_) | (refine xPure ?_)
        | (refine xMk ?_; intro id hid; (try simp only [set_none_iff] at hid); refine mkDo ?_)
        | (refine xChk ?_) | (refine xChkF ?_) | (refine xSkip ?_)
        | (refine xCall rfl rfl (sp70 n 0 11 _) ?_; rintro v h' ⟨rfl, hx⟩; cases hx; rw [K0]; refine nTm ?_)
        | (refine cSeq ?_) | (refine cNorm ?_) | (refine cRet ?_) | (refine cExit ?_) | (refine W_reg rfl ?_) | (refine W_block ?_) | (refine W_ret ?_) | (refine W_skip ?_) | (refine W_exit ?_) | (refine bNorm ?_) | (refine bRet ?_) | (refine bExit ?_) | (refine bExitN rfl ?_)
        | (refine xMask ?_) | (refine xT ?_) | (refine xF ?_) | (refine xRet ?_) | (refine xNorm ?_)
        | (refine wSplit _ rfl (by (first | (simp only [go_sem, *]; (first | done | exact rfl)) | rfl)) ?_ ?_ <;> intro hb <;> (try simp only [beq_false, beq_true, Bool.not_true, Bool.not_false, Bool.not_eq_true', Bool.not_eq_false', decide_eq_false_iff_not, decide_eq_true_eq, bne_iff_ne, beq_iff_eq, Bool.true_eq, Bool.false_eq, Bool.not_not, Bool.and_eq_true, Bool.or_eq_true, Bool.bne_true, Bool.bne_false, bne_eq_false_iff_eq, beq_eq_false_iff_ne, ne_eq] at hb))
        | (refine W_cond _ (by (first | (simp only [go_sem, *]; (first | done | exact rfl)) | rfl)) ?_ ?_ <;> intro hb <;> (try simp only [beq_false, beq_true, Bool.not_true, Bool.not_false, Bool.not_eq_true', Bool.not_eq_false', decide_eq_false_iff_not, decide_eq_true_eq, bne_iff_ne, beq_iff_eq, Bool.true_eq, Bool.false_eq, Bool.not_not, Bool.and_eq_true, Bool.or_eq_true, Bool.bne_true, Bool.bne_false, bne_eq_false_iff_eq, beq_eq_false_iff_ne, ne_eq] at hb)))
      all_goals exact ⟨rfl, Up.new (Up.refl h) (by assumption)⟩
    · have c2' : (n == 0) = false := by simpa using c2
      by_cases c3 : 0 < C
      · have c3' : (C : Int) > 0 := by omega
        have e : snd C n = true := decide_eq_true ⟨c1, .inr c3⟩
        rw [e]
        clear e c2 c1
        refine Sp_of (fn := f71) rfl (show W T b71 [.agg [.int .u64 C, .int .i64 n], .tup [], .tup [], .tup [], .tup [], .tup [], .tup [], .tup [], .tup [], .tup [], .tup [], .tup [], .tup [], .tup [], .tup [], .tup []] _ _ from ?_)
        unfold b71
        repeat' (first
          | (refine wNil ?_) | (refine xPure ?_)
          | (refine xMk ?_; intro id hid; (try simp only [set_none_iff] at hid); refine mkDo ?_)
          | (refine xChk ?_) | (refine xChkF ?_) | (refine xSkip ?_)
          | (refine xCall rfl rfl (sp70 n 0 11 _) ?_; rintro v h' ⟨rfl, hx⟩; cases hx; rw [K0]; refine nTm ?_)
          | (refine cSeq ?_) | (refine cNorm ?_) | (refine cRet ?_) | (refine cExit ?_) | (refine W_reg rfl ?_) | (refine W_block ?_) | (refine W_ret ?_) | (refine W_skip ?_) | (refine W_exit ?_) | (refine bNorm ?_) | (refine bRet ?_) | (refine bExit ?_) | (refine bExitN rfl ?_)
          | (refine xMask ?_) | (refine xT ?_) | (refine xF ?_) | (refine xRet ?_) | (refine xNorm ?_)
          | (refine wSplit _ rfl (by (first | (simp only [go_sem, *]; (first | done | exact rfl)) | rfl)) ?_ ?_ <;> intro hb <;> (try simp only [beq_false, beq_true, Bool.not_true, Bool.not_false, Bool.not_eq_true', Bool.not_eq_false', decide_eq_false_iff_not, decide_eq_true_eq, bne_iff_ne, beq_iff_eq, Bool.true_eq, Bool.false_eq, Bool.not_not, Bool.and_eq_true, Bool.or_eq_true, Bool.bne_true, Bool.bne_false, bne_eq_false_iff_eq, beq_eq_false_iff_ne, ne_eq] at hb))
          | (refine W_cond _ (by (first | (simp only [go_sem, *]; (first | done | exact rfl)) | rfl)) ?_ ?_ <;> intro hb <;> (try simp only [beq_false, beq_true, Bool.not_true, Bool.not_false, Bool.not_eq_true', Bool.not_eq_false', decide_eq_false_iff_not, decide_eq_true_eq, bne_iff_ne, beq_iff_eq, Bool.true_eq, Bool.false_eq, Bool.not_not, Bool.and_eq_true, Bool.or_eq_true, Bool.bne_true, Bool.bne_false, bne_eq_false_iff_eq, beq_eq_false_iff_ne, ne_eq] at hb)))
        all_goals exact ⟨rfl, Up.new (Up.refl h) (by assumption)⟩
      · have c3' : ¬ (C : Int) > 0 := by omega
        have e : snd C n = false := decide_eq_false (fun hh => hh.2.elim c2 c3)
        rw [e]
        clear e c2 c1
        refine Sp_of (fn := f71) rfl (show W T b71 [.agg [.int .u64 C, .int .i64 n], .tup [], .tup [], .tup [], .tup [], .tup [], .tup [], .tup [], .tup [], .tup [], .tup [], .tup [], .tup [], .tup [], .tup [], .tup []] _ _ from ?_)
        unfold b71
        repeat' (first
          | (refine wNil ?_) | (refine xPure ?_)
          | (refine xMk ?_; intro id hid; (try simp only [set_none_iff] at hid); refine mkDo ?_)
          | (refine xChk ?_) | (refine xChkF ?_) | (refine xSkip ?_)
          | (refine xCall rfl rfl (sp70 n 0 11 _) ?_; rintro v h' ⟨rfl, hx⟩; cases hx; rw [K0]; refine nTm ?_)
          | (refine cSeq ?_) | (refine cNorm ?_) | (refine cRet ?_) | (refine cExit ?_) | (refine W_reg rfl ?_) | (refine W_block ?_) | (refine W_ret ?_) | (refine W_skip ?_) | (refine W_exit ?_) | (refine bNorm ?_) | (refine bRet ?_) | (refine bExit ?_) | (refine bExitN rfl ?_)
          | (refine xMask ?_) | (refine xT ?_) | (refine xF ?_) | (refine xRet ?_) | (refine xNorm ?_)
          | (refine wSplit _ rfl (by (first | (simp only [go_sem, *]; (first | done | exact rfl)) | rfl)) ?_ ?_ <;> intro hb <;> (try simp only [beq_false, beq_true, Bool.not_true, Bool.not_false, Bool.not_eq_true', Bool.not_eq_false', decide_eq_false_iff_not, decide_eq_true_eq, bne_iff_ne, beq_iff_eq, Bool.true_eq, Bool.false_eq, Bool.not_not, Bool.and_eq_true, Bool.or_eq_true, Bool.bne_true, Bool.bne_false, bne_eq_false_iff_eq, beq_eq_false_iff_ne, ne_eq] at hb))
          | (refine W_cond _ (by (first | (simp only [go_sem, *]; (first | done | exact rfl)) | rfl)) ?_ ?_ <;> intro hb <;> (try simp only [beq_false, beq_true, Bool.not_true, Bool.not_false, Bool.not_eq_true', Bool.not_eq_false', decide_eq_false_iff_not, decide_eq_true_eq, bne_iff_ne, beq_iff_eq, Bool.true_eq, Bool.false_eq, Bool.not_not, Bool.and_eq_true, Bool.or_eq_true, Bool.bne_true, Bool.bne_false, bne_eq_false_iff_eq, beq_eq_false_iff_ne, ne_eq] at hb)))
        all_goals exact ⟨rfl, Up.new (Up.refl h) (by assumption)⟩
  · have K0 := decide_eq_false c1
    have e : snd C n = false := decide_eq_false (fun hh => c1 hh.1)
    rw [e]
    clear e c1
    refine Sp_of (fn := f71) rfl (show W T b71 [.agg [.int .u64 C, .int .i64 n], .tup [], .tup [], .tup [], .tup [], .tup [], .tup [], .tup [], .tup [], .tup [], .tup [], .tup [], .tup [], .tup [], .tup [], .tup []] _ _ from ?_)
    unfold b71
    repeat' (first
      | (refine wNil ?_) | (refine xPure ?_)
      | (refine xMk ?_; intro id hid; (try simp only [set_none_iff] at hid); refine mkDo ?_)
      | (refine xChk ?_) | (refine xChkF ?_) | (refine xSkip ?_)
      | (refine xCall rfl rfl (sp70 n 0 11 _) ?_; rintro v h' ⟨rfl, hx⟩; cases hx; rw [K0]; refine nTm ?_)
      | (refine cSeq ?_) | (refine cNorm ?_) | (refine cRet ?_) | (refine cExit ?_) | (refine W_reg rfl ?_) | (refine W_block ?_) | (refine W_ret ?_) | (refine W_skip ?_) | (refine W_exit ?_) | (refine bNorm ?_) | (refine bRet ?_) | (refine bExit ?_) | (refine bExitN rfl ?_)
      | (refine xMask ?_) | (refine xT ?_) | (refine xF ?_) | (refine xRet ?_) | (refine xNorm ?_)
      | (refine wSplit _ rfl (by (first | (simp only [go_sem, *]; (first | done | exact rfl)) | rfl)) ?_ ?_ <;> intro hb <;> (try simp only [beq_false, beq_true, Bool.not_true, Bool.not_false, Bool.not_eq_true', Bool.not_eq_false', decide_eq_false_iff_not, decide_eq_true_eq, bne_iff_ne, beq_iff_eq, Bool.true_eq, Bool.false_eq, Bool.not_not, Bool.and_eq_true, Bool.or_eq_true, Bool.bne_true, Bool.bne_false, bne_eq_false_iff_eq, beq_eq_false_iff_ne, ne_eq] at hb))
      | (refine W_cond _ (by (first | (simp only [go_sem, *]; (first | done | exact rfl)) | rfl)) ?_ ?_ <;> intro hb <;> (try simp only [beq_false, beq_true, Bool.not_true, Bool.not_false, Bool.not_eq_true', Bool.not_eq_false', decide_eq_false_iff_not, decide_eq_true_eq, bne_iff_ne, beq_iff_eq, Bool.true_eq, Bool.false_eq, Bool.not_not, Bool.and_eq_true, Bool.or_eq_true, Bool.bne_true, Bool.bne_false, bne_eq_false_iff_eq, beq_eq_false_iff_ne, ne_eq] at hb)))
    all_goals exact ⟨rfl, Up.new (Up.refl h) (by assumption)⟩
end Go.Proofs.YtgekngfnhhdamaaI
set_option linter.unusedVariables false
set_option linter.unusedSimpArgs false
set_option maxRecDepth 100000
set_option maxHeartbeats 4000000
namespace Go.Proofs.YtgekngfnhhdamaaI
open Go Go.Proofs.YtgekngfnhhdamaaM
attribute [local go_sem] aop ev fg_slc fg_slk fg_ptr fg_bool fg_int fg_str fg_iface fg_func fg_agg fg_tup fg_nils fg_nilp fg_nilI fg_nilF fg_und aboundsK alen_nils alen_slc alen_slk aslice_nils aslice_slc aslice_slk awanted abin aun aint aeqn aeqc aeqs apart abounds abnd amaxi amaxiGo cells_agg cells_slc cells_slk cells_ptr cells_bool cells_int cells_str cells_iface cells_func cells_tup cells_nils cells_nilp cells_nilI cells_nilF cells_und sc_slc sc_slk sc_ptr sc_bool sc_int sc_str sc_iface sc_func sc_nils sc_nilp sc_nilI sc_nilF gd_zero gd_succ List.all_cons List.all_nil Bool.and_self Bool.and_true Bool.true_and List.length_cons List.length_nil Option.map_some Option.some.injEq cell_same cell_ne cell_ne' cellsAt_same cellsAt_ne cellsAt_ne' put_same put_of set_same set_ne set_ne' List.getElem?_cons_zero List.getElem?_cons_succ if_true if_false and_self and_true true_and ne_eq not_true_eq_false not_false_eq_true decide_true decide_false Bool.false_eq_true Bool.true_eq_false beq_self_eq_true bne_self_eq_false beq_true beq_false Bool.not_true Bool.not_false List.map_cons List.map_nil putL List.set_cons_zero List.set_cons_succ afill Nat.zero_le Nat.le_refl Nat.zero_add Nat.add_zero List.drop_zero List.drop_succ_cons List.take_zero List.take_succ_cons Bool.not_eq_true Bool.not_eq_false decide_eq_true_eq decide_eq_false_iff_not Int.toNat_zero Nat.sub_zero Int.toNat_natCast Bool.bne_true Bool.bne_false AH.cell AH.cellsAt AH.put Nat.mul_one Nat.one_mul Int.natCast_nonneg List.length_set bs_append bs_size bs_toList bs_extract bs_get List.cons_append List.nil_append List.append_nil Nat.sub_zero bne_self_eq_false beq_self_eq_true azeros Int.le_refl
/-- Cut -/
theorem cut16 (s : List UInt8) (n : Nat) (h : AH) : Sp T 16 [.str (bs s), .int .i64 n] h (fun r h' => r = .str (bs (s.take n)) ∧ h' = h) := by
  by_cases c : n < s.length
  · have c1 : (n : Int) < (s.length : Int) := by omega
    have c2 : (n : Int) ≤ (s.length : Int) := by omega
    have c3 : n ≤ s.length := by omega
    refine Sp_of (fn := f16) rfl (show W T b16 [.str (bs s), .int .i64 n, .tup [], .tup [], .tup [], .tup [], .tup [], .tup [], .tup [], .tup [], .tup [], .tup [], .tup []] _ _ from ?_)
    unfold b16
    repeat' (first
      | (refine wNil ?_) | (refine xPure ?_)
      | (refine xMk ?_; intro id hid; (try simp only [set_none_iff] at hid); refine mkDo ?_)
      | (refine xChk ?_) | (refine xChkF ?_) | (refine xSkip ?_)
      | (refine cSeq ?_) | (refine cNorm ?_) | (refine cRet ?_) | (refine cExit ?_) | (refine W_reg rfl ?_) | (refine W_block ?_) | (refine W_ret ?_) | (refine W_skip ?_) | (refine W_exit ?_) | (refine bNorm ?_) | (refine bRet ?_) | (refine bExit ?_) | (refine bExitN rfl ?_)
      | (refine xMask ?_) | (refine xT ?_) | (refine xF ?_) | (refine xRet ?_) | (refine xNorm ?_)
      | (refine wSplit _ rfl (by (first | (simp only [go_sem, *]; (first | done | exact rfl)) | rfl)) ?_ ?_ <;> intro hb <;> (try simp only [beq_false, beq_true, Bool.not_true, Bool.not_false, Bool.not_eq_true', Bool.not_eq_false', decide_eq_false_iff_not, decide_eq_true_eq, bne_iff_ne, beq_iff_eq, Bool.true_eq, Bool.false_eq, Bool.not_not, Bool.and_eq_true, Bool.or_eq_true, Bool.bne_true, Bool.bne_false, bne_eq_false_iff_eq, beq_eq_false_iff_ne, ne_eq] at hb))
      | (refine W_cond _ (by (first | (simp only [go_sem, *]; (first | done | exact rfl)) | rfl)) ?_ ?_ <;> intro hb <;> (try simp only [beq_false, beq_true, Bool.not_true, Bool.not_false, Bool.not_eq_true', Bool.not_eq_false', decide_eq_false_iff_not, decide_eq_true_eq, bne_iff_ne, beq_iff_eq, Bool.true_eq, Bool.false_eq, Bool.not_not, Bool.and_eq_true, Bool.or_eq_true, Bool.bne_true, Bool.bne_false, bne_eq_false_iff_eq, beq_eq_false_iff_ne, ne_eq] at hb)))
    all_goals exact ⟨rfl, rfl⟩
  · have c1 : ¬ (n : Int) < (s.length : Int) := by omega
    rw [List.take_of_length_le (by omega)]
    refine Sp_of (fn := f16) rfl (show W T b16 [.str (bs s), .int .i64 n, .tup [], .tup [], .tup [], .tup [], .tup [], .tup [], .tup [], .tup [], .tup [], .tup [], .tup []] _ _ from ?_)
    unfold b16
    repeat' (first
      | (refine wNil ?_) | (refine xPure ?_)
      | (refine xMk ?_; intro id hid; (try simp only [set_none_iff] at hid); refine mkDo ?_)
      | (refine xChk ?_) | (refine xChkF ?_) | (refine xSkip ?_)
      | (refine cSeq ?_) | (refine cNorm ?_) | (refine cRet ?_) | (refine cExit ?_) | (refine W_reg rfl ?_) | (refine W_block ?_) | (refine W_ret ?_) | (refine W_skip ?_) | (refine W_exit ?_) | (refine bNorm ?_) | (refine bRet ?_) | (refine bExit ?_) | (refine bExitN rfl ?_)
      | (refine xMask ?_) | (refine xT ?_) | (refine xF ?_) | (refine xRet ?_) | (refine xNorm ?_)
      | (refine wSplit _ rfl (by (first | (simp only [go_sem, *]; (first | done | exact rfl)) | rfl)) ?_ ?_ <;> intro hb <;> (try simp only [beq_false, beq_true, Bool.not_true, Bool.not_false, Bool.not_eq_true', Bool.not_eq_false', decide_eq_false_iff_not, decide_eq_true_eq, bne_iff_ne, beq_iff_eq, Bool.true_eq, Bool.false_eq, Bool.not_not, Bool.and_eq_true, Bool.or_eq_true, Bool.bne_true, Bool.bne_false, bne_eq_false_iff_eq, beq_eq_false_iff_ne, ne_eq] at hb))
      | (refine W_cond _ (by (first | (simp only [go_sem, *]; (first | done | exact rfl)) | rfl)) ?_ ?_ <;> intro hb <;> (try simp only [beq_false, beq_true, Bool.not_true, Bool.not_false, Bool.not_eq_true', Bool.not_eq_false', decide_eq_false_iff_not, decide_eq_true_eq, bne_iff_ne, beq_iff_eq, Bool.true_eq, Bool.false_eq, Bool.not_not, Bool.and_eq_true, Bool.or_eq_true, Bool.bne_true, Bool.bne_false, bne_eq_false_iff_eq, beq_eq_false_iff_ne, ne_eq] at hb)))
    all_goals exact ⟨rfl, rfl⟩
/-- An entry. -/
abbrev En := Int × Nat × Int × List UInt8
def eM (x : En) : List AV := [.int .i64 x.1, .int .u64 (x.2.1 : Int), .int .i64 x.2.2.1, .str (bs x.2.2.2)]
theorem eMz (x : En) : (eM x).length = 4 := rfl
theorem eMs (x : En) : (eM x).all AV.scalar = true := rfl
def cutE (x : En) : En := (x.1, x.2.1, x.2.2.1, x.2.2.2.take 402)
def cutL (L : List En) : List En := (L.take 70).map cutE
/-- A list of entries of an argument. -/
def La (h : AH) (S : AV) (L : List En) : Prop := S = .nils ∧ L = [] ∨ ∃ i own rest, S.fg = .slc i 0 L.length 4 ∧ h i = some ⟨own, L.flatMap eM ++ rest⟩
theorem cell3 {cs : List AV} {o : Nat} {a b c d : AV} (h : (cs.drop o).take 4 = [a, b, c, d]) : cs[o + 3]? = some d := by
  have := congrArg (·[3]?) h
  simpa [List.getElem?_take, List.getElem?_drop] using this
theorem set3 : ∀ (A : List En) (x : En) (B : List En), ((A ++ x :: B).flatMap eM).set (A.length * 4 + 3) (.str (bs (x.2.2.2.take 402))) = (A ++ cutE x :: B).flatMap eM
  | [], x, B => by simp [eM, cutE]
  | y :: A, x, B => by
    rw [List.cons_append, List.flatMap_cons, List.cons_append, List.flatMap_cons, List.set_append_right _ _ (by rw [eMz, List.length_cons]; omega), ← set3 A x B]
    congr 2
    rw [eMz, List.length_cons]; omega
def L46c : ICode := (.seq (.block 0 (.loop (.seq (.mask [1, 2, 3, 22, 23]) (.seq (.reg [(0, false)] r46_6)
 (.seq (.cond (.t 24) .skip
 (.exit 0))
 (.seq (.seq (.block 1 (.seq (.reg [(0, false), (1, false)] r46_7)
 (.reg [(0, false), (1, false), (2, false), (3, false), (4, false), (5, false), (6, false), (7, false), (8, false), (9, false), (10, false)] r46_8))) (.mask [1, 2, 3, 22, 23]))
 (.reg [(0, false), (1, false)] r46_9))))))) (.mask [1, 2, 3]))
def R46c : ICode := (.seq (.reg [(0, false), (1, false), (2, false)] r46_10)
 (.seq (.reg [(0, false), (1, false)] r46_11)
 .ret))
theorem loop46 (k1 k2 k3 k4 : Int) (C : Nat) (n1 s1 s2 : Int) (ok : Bool) (x : List UInt8) (S0 : AV) (L : List En) (h g : AH) (b1 b2 id0 : List Nat) (hl : L.length ≤ 70) (hu : Up h g) (h1 : g b1 = some ⟨true, [.int .i64 k1, .int .i64 k2, .int .i64 k3, .int .i64 k4, .int .u64 (C : Int), .int .i64 n1, .int .i64 s1, .int .i64 s2, .bool ok, .str (bs x), S0]⟩) (h2 : g b2 = some ⟨true, [.int .i64 0, .int .i64 0, .int .i64 0, .int .i64 0, .int .u64 0, .int .i64 0, .int .i64 0, .int .i64 0, .bool false, .str ⟨#[]⟩, .nils]⟩) (h3 : g id0 = some ⟨true, L.flatMap eM⟩) (hid : h id0 = none) (hb1 : h b1 = none) (hb2 : h b2 = none) (n12 : b1 ≠ b2) (n13 : b1 ≠ id0) (n23 : b2 ≠ id0)
    (Q : AV → AH → Prop) (hQ : ∀ g', Up h g' → g' id0 = some ⟨true, (L.map cutE).flatMap eM⟩ → Q (.agg [.int .i64 k1, .int .i64 k2, .int .i64 k3, .int .i64 k4, .int .u64 (C : Int), .int .i64 n1, .int .i64 s1, .int .i64 s2, .bool ok, .str (bs x), .slc id0 0 L.length 4]) g') (tm : List AV) (htm : keep [1, 2, 3, 22, 23] 0 tm = [.und, .ptr b1 0, .ptr b2 0, .slc id0 0 L.length 4, .und, .und, .und, .und, .und, .und, .und, .und, .und, .und, .und, .und, .und, .und, .und, .und, .und, .und, .int .i64 (L.length : Int), .int .i64 0, .und, .und, .und, .und, .und, .und, .und, .und, .und, .und, .und, .und, .und, .und, .und, .und]) :
    W T L46c tm g (Then (fun tm' h' => W T R46c tm' h' (Rets f46 Q)) (Rets f46 Q)) := by
  unfold L46c
  refine cSeq ?_
  refine W_block ?_
  refine W_loop (fun m tm g' => ∃ k : Nat, k + m = L.length ∧ g' = g.set id0 (some ⟨true, ((L.take k).map cutE ++ L.drop k).flatMap eM⟩) ∧ keep [1, 2, 3, 22, 23] 0 tm = [.und, .ptr b1 0, .ptr b2 0, .slc id0 0 L.length 4, .und, .und, .und, .und, .und, .und, .und, .und, .und, .und, .und, .und, .und, .und, .und, .und, .und, .und, .int .i64 (L.length : Int), .int .i64 (k : Int), .und, .und, .und, .und, .und, .und, .und, .und, .und, .und, .und, .und, .und, .und, .und, .und]) L.length ⟨0, by omega, by simp only [List.take_zero, List.map_nil, List.nil_append, List.drop_zero]; funext y; by_cases e : y = id0; (subst e; rw [set_same, h3]); rw [set_ne e], htm⟩ ?_
  clear htm
  rintro m tm g' ⟨k, hk, rfl, htm⟩
  refine cSeq (cMask (cNorm ?_))
  rw [htm]; clear htm
  by_cases hkl : k < L.length
  · have d1 : (k : Int) < (L.length : Int) := by omega
    have d2 : (0 : Int) ≤ (k : Int) := by omega
    have w1 : IntKind.i64.wrap ((k : Int) + 1) = ((k + 1 : Nat) : Int) := by rw [wrap64 (by omega) (by omega)]; rfl
    obtain ⟨y, hy⟩ : ∃ y, L[k]? = some y := ⟨_, List.getElem?_eq_getElem hkl⟩
    have hdr : L.drop k = y :: L.drop (k + 1) := by rw [List.drop_eq_getElem_cons hkl, (List.getElem?_eq_some_iff.1 hy).2]
    have htk : L.take (k + 1) = L.take k ++ [y] := by rw [List.take_add_one, hy]; rfl
    have hAl : ((L.take k).map cutE).length = k := by rw [List.length_map, List.length_take]; omega
    have hget : ((L.take k).map cutE ++ L.drop k)[k]? = some y := by rw [hdr, List.getElem?_append_right (by omega), hAl]; simp
    obtain ⟨g1, g2⟩ := flat_get eMz hget []
    rw [List.append_nil] at g1 g2
    have g3 := cell3 (show _ = [.int .i64 y.1, .int .u64 (y.2.1 : Int), .int .i64 y.2.2.1, .str (bs y.2.2.2)] from g2)
    have g4 := set3 ((L.take k).map cutE) y (L.drop (k + 1))
    rw [hAl, ← hdr] at g4
    have g5 : ((L.take (k + 1)).map cutE ++ L.drop (k + 1)).flatMap eM = ((L.take k).map cutE ++ cutE y :: L.drop (k + 1)).flatMap eM := by rw [htk, List.map_append, List.append_assoc]; rfl
    rw [← g5] at g4
    have c16 : ∀ h, Sp T 16 [.str (bs y.2.2.2), .int .i64 402] h (fun r h' => r = .str (bs (y.2.2.2.take 402)) ∧ h' = h) := fun h => cut16 y.2.2.2 402 h
    obtain ⟨cs, hcs⟩ : ∃ cs, ((L.take k).map cutE ++ L.drop k).flatMap eM = cs := ⟨_, rfl⟩
    rw [hcs] at g1 g3 g4 ⊢
    have g6 : k * 4 + 3 + 1 ≤ cs.length := by omega
    clear hcs g2 g5 hget hdr htk hAl hy hQ
    repeat' (first
      | (refine wNil ?_) | (refine xPure ?_)
      | (refine xMk ?_; intro id hid; (try simp only [set_none_iff] at hid); refine mkDo ?_)
      | (refine xChk ?_) | (refine xChkF ?_) | (refine xSkip ?_)
      | (refine xCall rfl rfl (c16 _) ?_; rintro r q3 ⟨rfl, hx⟩; cases hx; refine nTm ?_)
      | (refine cSeq ?_) | (refine cNorm ?_) | (refine cRet ?_) | (refine cExit ?_) | (refine W_reg rfl ?_) | (refine W_block ?_) | (refine W_ret ?_) | (refine W_skip ?_) | (refine W_exit ?_) | (refine bNorm ?_) | (refine bRet ?_) | (refine bExit ?_) | (refine bExitN rfl ?_)
      | (refine xMask ?_) | (refine xT ?_) | (refine xF ?_) | (refine xRet ?_) | (refine xNorm ?_)
      | (refine wSplit _ rfl (by (first | (simp only [go_sem, *]; (first | done | exact rfl)) | rfl)) ?_ ?_ <;> intro hb <;> (try simp only [beq_false, beq_true, Bool.not_true, Bool.not_false, Bool.not_eq_true', Bool.not_eq_false', decide_eq_false_iff_not, decide_eq_true_eq, bne_iff_ne, beq_iff_eq, Bool.true_eq, Bool.false_eq, Bool.not_not, Bool.and_eq_true, Bool.or_eq_true, Bool.bne_true, Bool.bne_false, bne_eq_false_iff_eq, beq_eq_false_iff_ne, ne_eq] at hb))
      | (refine W_cond _ (by (first | (simp only [go_sem, *]; (first | done | exact rfl)) | rfl)) ?_ ?_ <;> intro hb <;> (try simp only [beq_false, beq_true, Bool.not_true, Bool.not_false, Bool.not_eq_true', Bool.not_eq_false', decide_eq_false_iff_not, decide_eq_true_eq, bne_iff_ne, beq_iff_eq, Bool.true_eq, Bool.false_eq, Bool.not_not, Bool.and_eq_true, Bool.or_eq_true, Bool.bne_true, Bool.bne_false, bne_eq_false_iff_eq, beq_eq_false_iff_ne, ne_eq] at hb)))
    all_goals exact ⟨m - 1, by omega, k + 1, by omega, by first | (simp only [set_set]; done) | (simp only [set_set]; rw [g4]), by simp only [keep, List.contains_cons, List.contains_nil, Nat.reduceBEq, Bool.or_true, Bool.true_or, Bool.or_false, Bool.false_or, if_true, if_false, Bool.false_eq_true, beq_self_eq_true, Nat.zero_add, Nat.reduceAdd, eq_self]⟩
  · have d1 : ¬ (k : Int) < (L.length : Int) := by omega
    rw [List.take_of_length_le (by omega), List.drop_of_length_le (by omega), List.append_nil]
    unfold R46c
    repeat' (first
      | (refine wNil ?_) | (refine xPure ?_)
      | (refine xMk ?_; intro id hid; (try simp only [set_none_iff] at hid); refine mkDo ?_)
      | (refine xChk ?_) | (refine xChkF ?_) | (refine xSkip ?_)
      | (refine cSeq ?_) | (refine cNorm ?_) | (refine cRet ?_) | (refine cExit ?_) | (refine W_reg rfl ?_) | (refine W_block ?_) | (refine W_ret ?_) | (refine W_skip ?_) | (refine W_exit ?_) | (refine bNorm ?_) | (refine bRet ?_) | (refine bExit ?_) | (refine bExitN rfl ?_)
      | (refine xMask ?_) | (refine xT ?_) | (refine xF ?_) | (refine xRet ?_) | (refine xNorm ?_)
      | (refine wSplit _ rfl (by (first | (simp only [go_sem, *]; (first | done | exact rfl)) | rfl)) ?_ ?_ <;> intro hb <;> (try simp only [beq_false, beq_true, Bool.not_true, Bool.not_false, Bool.not_eq_true', Bool.not_eq_false', decide_eq_false_iff_not, decide_eq_true_eq, bne_iff_ne, beq_iff_eq, Bool.true_eq, Bool.false_eq, Bool.not_not, Bool.and_eq_true, Bool.or_eq_true, Bool.bne_true, Bool.bne_false, bne_eq_false_iff_eq, beq_eq_false_iff_ne, ne_eq] at hb))
      | (refine W_cond _ (by (first | (simp only [go_sem, *]; (first | done | exact rfl)) | rfl)) ?_ ?_ <;> intro hb <;> (try simp only [beq_false, beq_true, Bool.not_true, Bool.not_false, Bool.not_eq_true', Bool.not_eq_false', decide_eq_false_iff_not, decide_eq_true_eq, bne_iff_ne, beq_iff_eq, Bool.true_eq, Bool.false_eq, Bool.not_not, Bool.and_eq_true, Bool.or_eq_true, Bool.bne_true, Bool.bne_false, bne_eq_false_iff_eq, beq_eq_false_iff_ne, ne_eq] at hb)))
    all_goals (refine ⟨[.agg [.int .i64 k1, .int .i64 k2, .int .i64 k3, .int .i64 k4, .int .u64 (C : Int), .int .i64 n1, .int .i64 s1, .int .i64 s2, .bool ok, .str (bs x), .slc id0 0 L.length 4]], (by simp [ares, ares1, f46, ev, AH.cellsAt, AH.cell, set_same, set_ne', *]), ?_⟩)
    refine hQ _ (Up.new (Up.new (Up.new hu hid) hb1) hb2) ?_
    rw [set_ne (Ne.symm n23), set_ne (Ne.symm n13), set_same]
end Go.Proofs.YtgekngfnhhdamaaI
set_option linter.unusedVariables false
set_option linter.unusedSimpArgs false
set_option maxRecDepth 100000
set_option maxHeartbeats 4000000
namespace Go.Proofs.YtgekngfnhhdamaaI
open Go Go.Proofs.YtgekngfnhhdamaaM
attribute [local go_sem] aop ev fg_slc fg_slk fg_ptr fg_bool fg_int fg_str fg_iface fg_func fg_agg fg_tup fg_nils fg_nilp fg_nilI fg_nilF fg_und aboundsK alen_nils alen_slc alen_slk aslice_nils aslice_slc aslice_slk awanted abin aun aint aeqn aeqc aeqs apart abounds abnd amaxi amaxiGo cells_agg cells_slc cells_slk cells_ptr cells_bool cells_int cells_str cells_iface cells_func cells_tup cells_nils cells_nilp cells_nilI cells_nilF cells_und sc_slc sc_slk sc_ptr sc_bool sc_int sc_str sc_iface sc_func sc_nils sc_nilp sc_nilI sc_nilF gd_zero gd_succ List.all_cons List.all_nil Bool.and_self Bool.and_true Bool.true_and List.length_cons List.length_nil Option.map_some Option.some.injEq cell_same cell_ne cell_ne' cellsAt_same cellsAt_ne cellsAt_ne' put_same put_of set_same set_ne set_ne' List.getElem?_cons_zero List.getElem?_cons_succ if_true if_false and_self and_true true_and ne_eq not_true_eq_false not_false_eq_true decide_true decide_false Bool.false_eq_true Bool.true_eq_false beq_self_eq_true bne_self_eq_false beq_true beq_false Bool.not_true Bool.not_false List.map_cons List.map_nil putL List.set_cons_zero List.set_cons_succ afill Nat.zero_le Nat.le_refl Nat.zero_add Nat.add_zero List.drop_zero List.drop_succ_cons List.take_zero List.take_succ_cons Bool.not_eq_true Bool.not_eq_false decide_eq_true_eq decide_eq_false_iff_not Int.toNat_zero Nat.sub_zero Int.toNat_natCast Bool.bne_true Bool.bne_false AH.cell AH.cellsAt AH.put Nat.mul_one Nat.one_mul Int.natCast_nonneg List.length_set bs_append bs_size bs_toList bs_extract bs_get List.cons_append List.nil_append List.append_nil Nat.sub_zero bne_self_eq_false beq_self_eq_true azeros Int.le_refl aapp
theorem loop46n (k1 k2 k3 k4 : Int) (C : Nat) (n1 s1 s2 : Int) (ok : Bool) (x : List UInt8) (S0 : AV) (L : List En) (h g : AH) (b1 b2 id0 : List Nat) (hl : L.length ≤ 70) (hu : Up h g) (h1 : g b1 = some ⟨true, [.int .i64 k1, .int .i64 k2, .int .i64 k3, .int .i64 k4, .int .u64 (C : Int), .int .i64 n1, .int .i64 s1, .int .i64 s2, .bool ok, .str (bs x), S0]⟩) (h2 : g b2 = some ⟨true, [.int .i64 0, .int .i64 0, .int .i64 0, .int .i64 0, .int .u64 0, .int .i64 0, .int .i64 0, .int .i64 0, .bool false, .str ⟨#[]⟩, .nils]⟩) (h3 : g id0 = some ⟨true, L.flatMap eM⟩) (hid : h id0 = none) (hb1 : h b1 = none) (hb2 : h b2 = none) (n12 : b1 ≠ b2) (n13 : b1 ≠ id0) (n23 : b2 ≠ id0)
    (Q : AV → AH → Prop) (hQ : ∀ g', Up h g' → g' id0 = some ⟨true, (L.map cutE).flatMap eM⟩ → Q (.agg [.int .i64 k1, .int .i64 k2, .int .i64 k3, .int .i64 k4, .int .u64 (C : Int), .int .i64 n1, .int .i64 s1, .int .i64 s2, .bool ok, .str (bs x), .slc id0 0 L.length 4]) g') (tm : List AV) (nL : Nat) (hnL : L.length = nL) (htm : keep [1, 2, 3, 22, 23] 0 tm = [.und, .ptr b1 0, .ptr b2 0, .slc id0 0 nL 4, .und, .und, .und, .und, .und, .und, .und, .und, .und, .und, .und, .und, .und, .und, .und, .und, .und, .und, .int .i64 (nL : Int), .int .i64 0, .und, .und, .und, .und, .und, .und, .und, .und, .und, .und, .und, .und, .und, .und, .und, .und]) :
    W T L46c tm g (Then (fun tm' h' => W T R46c tm' h' (Rets f46 Q)) (Rets f46 Q)) := by
  subst hnL
  exact loop46 k1 k2 k3 k4 C n1 s1 s2 ok x S0 L h g b1 b2 id0 hl hu h1 h2 h3 hid hb1 hb2 n12 n13 n23 Q hQ tm htm
/-- Few -/
theorem sp46 (k1 k2 k3 k4 : Int) (C : Nat) (n1 s1 s2 : Int) (ok : Bool) (x : List UInt8) (S : AV) (L : List En) (h : AH) (hS : S = .nils ∧ L = [] ∨ ∃ i, S = .slc i 0 L.length 4 ∧ h i = some ⟨false, L.flatMap eM⟩) :
    Sp T 46 [.agg [.int .i64 k1, .int .i64 k2, .int .i64 k3, .int .i64 k4, .int .u64 (C : Int), .int .i64 n1, .int .i64 s1, .int .i64 s2, .bool ok, .str (bs x), S]] h (fun v h' => ∃ id, h id = none ∧ v = .agg [.int .i64 k1, .int .i64 k2, .int .i64 k3, .int .i64 k4, .int .u64 (C : Int), .int .i64 n1, .int .i64 s1, .int .i64 s2, .bool ok, .str (bs (x.take 300)), .slc id 0 (cutL L).length 4] ∧ h' id = some ⟨true, (cutL L).flatMap eM⟩ ∧ Up h h') := by
  have c16 : ∀ h, Sp T 16 [.str (bs x), .int .i64 300] h (fun r h' => r = .str (bs (x.take 300)) ∧ h' = h) := fun h => cut16 x 300 h
  have hu0 := Up.refl h
  rcases hS with ⟨rfl, rfl⟩ | ⟨i, rfl, hi⟩
  · refine Sp_of (fn := f46) rfl (show W T b46 [.agg [.int .i64 k1, .int .i64 k2, .int .i64 k3, .int .i64 k4, .int .u64 (C : Int), .int .i64 n1, .int .i64 s1, .int .i64 s2, .bool ok, .str (bs x), .nils], .tup [], .tup [], .tup [], .tup [], .tup [], .tup [], .tup [], .tup [], .tup [], .tup [], .tup [], .tup [], .tup [], .tup [], .tup [], .tup [], .tup [], .tup [], .tup [], .tup [], .tup [], .tup [], .tup [], .tup [], .tup [], .tup [], .tup [], .tup [], .tup [], .tup [], .tup [], .tup [], .tup [], .tup [], .tup [], .tup [], .tup [], .tup [], .tup []] _ _ from ?_)
    unfold b46
    repeat' (first
      | (refine wNil ?_) | (refine xPure ?_)
      | (refine xMk ?_; intro id hid; (try simp only [set_none_iff] at hid); have hz := hid; (repeat (replace hz := hz.2)); (try have := Up.none hu0 hz); refine mkDo ?_)
      | (refine xChk ?_) | (refine xChkF ?_) | (refine xSkip ?_)
      | (refine xCall rfl rfl (c16 _) ?_; rintro r q3 ⟨rfl, hx⟩; cases hx; refine nTm ?_)
      | (exact loop46 k1 k2 k3 k4 C n1 s1 s2 ok (x.take 300) (.nils) [] h _ _ _ _ (by simp) (by repeat' (first | assumption | exact Up.refl _ | refine Up.new ?_ ?_)) (by first | exact set_same | (simp only [set_ne, set_ne', set_same, ne_eq, not_false_eq_true, *]; done)) (by first | exact set_same | (simp only [set_ne, set_ne', set_same, ne_eq, not_false_eq_true, *]; done)) (by first | exact set_same | (simp only [set_ne, set_ne', set_same, ne_eq, not_false_eq_true, *]; done)) (by assumption) (by assumption) (by assumption) (by intro e; simp_all) (by intro e; simp_all) (by intro e; simp_all) _ (fun g' hu' hg' => ⟨_, by assumption, by simp [cutL], hg', hu'⟩) _ rfl)
      | (refine cSeq ?_) | (refine cNorm ?_) | (refine cRet ?_) | (refine cExit ?_) | (refine W_reg rfl ?_) | (refine W_block ?_) | (refine W_ret ?_) | (refine W_skip ?_) | (refine W_exit ?_) | (refine bNorm ?_) | (refine bRet ?_) | (refine bExit ?_) | (refine bExitN rfl ?_)
      | (refine xMask ?_) | (refine xT ?_) | (refine xF ?_) | (refine xRet ?_) | (refine xNorm ?_)
      | (refine wSplit _ rfl (by (first | (simp only [go_sem, *]; (first | done | exact rfl)) | rfl)) ?_ ?_ <;> intro hb <;> (try simp only [beq_false, beq_true, Bool.not_true, Bool.not_false, Bool.not_eq_true', Bool.not_eq_false', decide_eq_false_iff_not, decide_eq_true_eq, bne_iff_ne, beq_iff_eq, Bool.true_eq, Bool.false_eq, Bool.not_not, Bool.and_eq_true, Bool.or_eq_true, Bool.bne_true, Bool.bne_false, bne_eq_false_iff_eq, beq_eq_false_iff_ne, ne_eq] at hb))
      | (refine W_cond _ (by (first | (simp only [go_sem, *]; (first | done | exact rfl)) | rfl)) ?_ ?_ <;> intro hb <;> (try simp only [beq_false, beq_true, Bool.not_true, Bool.not_false, Bool.not_eq_true', Bool.not_eq_false', decide_eq_false_iff_not, decide_eq_true_eq, bne_iff_ne, beq_iff_eq, Bool.true_eq, Bool.false_eq, Bool.not_not, Bool.and_eq_true, Bool.or_eq_true, Bool.bne_true, Bool.bne_false, bne_eq_false_iff_eq, beq_eq_false_iff_ne, ne_eq] at hb)))
  · have hsc := flat_sc eMs L
    have hfl := flat_len eMz L
    cases L with
    | nil =>
      refine Sp_of (fn := f46) rfl (show W T b46 [.agg [.int .i64 k1, .int .i64 k2, .int .i64 k3, .int .i64 k4, .int .u64 (C : Int), .int .i64 n1, .int .i64 s1, .int .i64 s2, .bool ok, .str (bs x), .slc i 0 0 4], .tup [], .tup [], .tup [], .tup [], .tup [], .tup [], .tup [], .tup [], .tup [], .tup [], .tup [], .tup [], .tup [], .tup [], .tup [], .tup [], .tup [], .tup [], .tup [], .tup [], .tup [], .tup [], .tup [], .tup [], .tup [], .tup [], .tup [], .tup [], .tup [], .tup [], .tup [], .tup [], .tup [], .tup [], .tup [], .tup [], .tup [], .tup [], .tup []] _ _ from ?_)
      unfold b46
      repeat' (first
        | (refine wNil ?_) | (refine xPure ?_)
        | (refine xMk ?_; intro id hid; (try simp only [set_none_iff] at hid); have hz := hid; (repeat (replace hz := hz.2)); (try have := nei hi hz); (try have := Up.none hu0 hz); refine mkDo ?_)
        | (refine xChk ?_) | (refine xChkF ?_) | (refine xSkip ?_)
        | (refine xCall rfl rfl (c16 _) ?_; rintro r q3 ⟨rfl, hx⟩; cases hx; refine nTm ?_)
        | (exact loop46 k1 k2 k3 k4 C n1 s1 s2 ok (x.take 300) (.slc i 0 0 4) [] h _ _ _ _ (by simp) (by repeat' (first | assumption | exact Up.refl _ | refine Up.new ?_ ?_)) (by first | exact set_same | (simp only [set_ne, set_ne', set_same, ne_eq, not_false_eq_true, *]; done)) (by first | exact set_same | (simp only [set_ne, set_ne', set_same, ne_eq, not_false_eq_true, *]; done)) (by first | exact set_same | (simp only [set_ne, set_ne', set_same, ne_eq, not_false_eq_true, *]; done)) (by assumption) (by assumption) (by assumption) (by intro e; simp_all) (by intro e; simp_all) (by intro e; simp_all) _ (fun g' hu' hg' => ⟨_, by assumption, by simp [cutL], hg', hu'⟩) _ rfl)
        | (refine cSeq ?_) | (refine cNorm ?_) | (refine cRet ?_) | (refine cExit ?_) | (refine W_reg rfl ?_) | (refine W_block ?_) | (refine W_ret ?_) | (refine W_skip ?_) | (refine W_exit ?_) | (refine bNorm ?_) | (refine bRet ?_) | (refine bExit ?_) | (refine bExitN rfl ?_)
        | (refine xMask ?_) | (refine xT ?_) | (refine xF ?_) | (refine xRet ?_) | (refine xNorm ?_)
        | (refine wSplit _ rfl (by (first | (simp only [go_sem, *]; (first | done | exact rfl)) | rfl)) ?_ ?_ <;> intro hb <;> (try simp only [beq_false, beq_true, Bool.not_true, Bool.not_false, Bool.not_eq_true', Bool.not_eq_false', decide_eq_false_iff_not, decide_eq_true_eq, bne_iff_ne, beq_iff_eq, Bool.true_eq, Bool.false_eq, Bool.not_not, Bool.and_eq_true, Bool.or_eq_true, Bool.bne_true, Bool.bne_false, bne_eq_false_iff_eq, beq_eq_false_iff_ne, ne_eq] at hb))
        | (refine W_cond _ (by (first | (simp only [go_sem, *]; (first | done | exact rfl)) | rfl)) ?_ ?_ <;> intro hb <;> (try simp only [beq_false, beq_true, Bool.not_true, Bool.not_false, Bool.not_eq_true', Bool.not_eq_false', decide_eq_false_iff_not, decide_eq_true_eq, bne_iff_ne, beq_iff_eq, Bool.true_eq, Bool.false_eq, Bool.not_not, Bool.and_eq_true, Bool.or_eq_true, Bool.bne_true, Bool.bne_false, bne_eq_false_iff_eq, beq_eq_false_iff_ne, ne_eq] at hb)))
    | cons y L' =>
      obtain ⟨L, hL⟩ : ∃ L, y :: L' = L := ⟨_, rfl⟩
      have hne : ¬ L.length = 0 := by rw [← hL]; simp
      rw [hL] at hi hsc hfl ⊢
      clear hL
      by_cases h70 : L.length ≤ 70
      · have d1 : ¬ (L.length : Int) > 70 := by omega
        have e1 : (L.flatMap eM).take (L.length * 4) = L.flatMap eM := List.take_of_length_le (by omega)
        have e2 : L.take 70 = L := List.take_of_length_le h70
        have r1 : (0 + L.length) * 40 ≤ roomMost := by unfold roomMost; omega
        have r2 : L.length * 40 ≤ roomMost := by unfold roomMost; omega
        refine Sp_of (fn := f46) rfl (show W T b46 [.agg [.int .i64 k1, .int .i64 k2, .int .i64 k3, .int .i64 k4, .int .u64 (C : Int), .int .i64 n1, .int .i64 s1, .int .i64 s2, .bool ok, .str (bs x), .slc i 0 L.length 4], .tup [], .tup [], .tup [], .tup [], .tup [], .tup [], .tup [], .tup [], .tup [], .tup [], .tup [], .tup [], .tup [], .tup [], .tup [], .tup [], .tup [], .tup [], .tup [], .tup [], .tup [], .tup [], .tup [], .tup [], .tup [], .tup [], .tup [], .tup [], .tup [], .tup [], .tup [], .tup [], .tup [], .tup [], .tup [], .tup [], .tup [], .tup [], .tup []] _ _ from ?_)
        unfold b46
        repeat' (first
          | (refine wNil ?_) | (refine xPure ?_)
          | (refine xMk ?_; intro id hid; (try simp only [set_none_iff] at hid); have hz := hid; (repeat (replace hz := hz.2)); (try have := nei hi hz); (try have := Up.none hu0 hz); refine mkDo ?_)
          | (refine xChk ?_) | (refine xChkF ?_) | (refine xSkip ?_)
          | (refine xCall rfl rfl (c16 _) ?_; rintro r q3 ⟨rfl, hx⟩; cases hx; refine nTm ?_)
          | (exact loop46 k1 k2 k3 k4 C n1 s1 s2 ok (x.take 300) (.slc i 0 L.length 4) L h _ _ _ _ h70 (by repeat' (first | assumption | exact Up.refl _ | refine Up.new ?_ ?_)) (by first | exact set_same | (simp only [set_ne, set_ne', set_same, ne_eq, not_false_eq_true, *]; done)) (by first | exact set_same | (simp only [set_ne, set_ne', set_same, ne_eq, not_false_eq_true, *]; done)) (by first | exact set_same | (simp only [set_ne, set_ne', set_same, ne_eq, not_false_eq_true, *]; done)) (by assumption) (by assumption) (by assumption) (by intro e; simp_all) (by intro e; simp_all) (by intro e; simp_all) _ (fun g' hu' hg' => ⟨_, by assumption, by simp [cutL, e2], by simpa [cutL, e2] using hg', hu'⟩) _ rfl)
          | (refine cSeq ?_) | (refine cNorm ?_) | (refine cRet ?_) | (refine cExit ?_) | (refine W_reg rfl ?_) | (refine W_block ?_) | (refine W_ret ?_) | (refine W_skip ?_) | (refine W_exit ?_) | (refine bNorm ?_) | (refine bRet ?_) | (refine bExit ?_) | (refine bExitN rfl ?_)
          | (refine xMask ?_) | (refine xT ?_) | (refine xF ?_) | (refine xRet ?_) | (refine xNorm ?_)
          | (refine wSplit _ rfl (by (first | (simp only [go_sem, *]; (first | done | exact rfl)) | rfl)) ?_ ?_ <;> intro hb <;> (try simp only [beq_false, beq_true, Bool.not_true, Bool.not_false, Bool.not_eq_true', Bool.not_eq_false', decide_eq_false_iff_not, decide_eq_true_eq, bne_iff_ne, beq_iff_eq, Bool.true_eq, Bool.false_eq, Bool.not_not, Bool.and_eq_true, Bool.or_eq_true, Bool.bne_true, Bool.bne_false, bne_eq_false_iff_eq, beq_eq_false_iff_ne, ne_eq] at hb))
          | (refine W_cond _ (by (first | (simp only [go_sem, *]; (first | done | exact rfl)) | rfl)) ?_ ?_ <;> intro hb <;> (try simp only [beq_false, beq_true, Bool.not_true, Bool.not_false, Bool.not_eq_true', Bool.not_eq_false', decide_eq_false_iff_not, decide_eq_true_eq, bne_iff_ne, beq_iff_eq, Bool.true_eq, Bool.false_eq, Bool.not_not, Bool.and_eq_true, Bool.or_eq_true, Bool.bne_true, Bool.bne_false, bne_eq_false_iff_eq, beq_eq_false_iff_ne, ne_eq] at hb)))
      · have d1 : (L.length : Int) > 70 := by omega
        have d2 : (70 : Int) ≤ (L.length : Int) := by omega
        have d3 : (0 : Int) ≤ 70 := by decide
        have d4 : Int.toNat 70 = 70 := rfl
        have d5 : ¬ 70 = L.length := by omega
        have d6 : ¬ (70 : Nat) = 0 := by decide
        have e1 : (L.flatMap eM).take (70 * 4) = (L.take 70).flatMap eM := flat_take eMz L 70
        have e3 : (L.flatMap eM).take 280 = (L.take 70).flatMap eM := e1
        have e2 : 70 * 4 ≤ L.length * 4 := by omega
        have e4 : 280 ≤ L.length * 4 := by omega
        have e5 := flat_sc eMs (L.take 70)
        have e6 : ((L.take 70).flatMap eM).length = 280 := by rw [flat_len eMz, List.length_take]; omega
        have e7 : (L.take 70).length = 70 := by rw [List.length_take]; omega
        have r1 : (0 + 70) * 40 ≤ roomMost := by unfold roomMost; omega
        have r2 : 70 * 40 ≤ roomMost := by unfold roomMost; omega
        have r3 : 2800 ≤ roomMost := by unfold roomMost; omega
        refine Sp_of (fn := f46) rfl (show W T b46 [.agg [.int .i64 k1, .int .i64 k2, .int .i64 k3, .int .i64 k4, .int .u64 (C : Int), .int .i64 n1, .int .i64 s1, .int .i64 s2, .bool ok, .str (bs x), .slc i 0 L.length 4], .tup [], .tup [], .tup [], .tup [], .tup [], .tup [], .tup [], .tup [], .tup [], .tup [], .tup [], .tup [], .tup [], .tup [], .tup [], .tup [], .tup [], .tup [], .tup [], .tup [], .tup [], .tup [], .tup [], .tup [], .tup [], .tup [], .tup [], .tup [], .tup [], .tup [], .tup [], .tup [], .tup [], .tup [], .tup [], .tup [], .tup [], .tup [], .tup []] _ _ from ?_)
        unfold b46
        repeat' (first
          | (refine wNil ?_) | (refine xPure ?_)
          | (refine xMk ?_; intro id hid; (try simp only [set_none_iff] at hid); have hz := hid; (repeat (replace hz := hz.2)); (try have := nei hi hz); (try have := Up.none hu0 hz); refine mkDo ?_)
          | (refine xChk ?_) | (refine xChkF ?_) | (refine xSkip ?_)
          | (refine xCall rfl rfl (c16 _) ?_; rintro r q3 ⟨rfl, hx⟩; cases hx; refine nTm ?_)
          | (exact loop46n k1 k2 k3 k4 C n1 s1 s2 ok (x.take 300) (.slk i 0 70 4 L.length false) (L.take 70) h _ _ _ _ (by omega) (by repeat' (first | assumption | exact Up.refl _ | refine Up.new ?_ ?_)) (by first | exact set_same | (simp only [set_ne, set_ne', set_same, ne_eq, not_false_eq_true, *]; done)) (by first | exact set_same | (simp only [set_ne, set_ne', set_same, ne_eq, not_false_eq_true, *]; done)) (by first | exact set_same | (simp only [set_ne, set_ne', set_same, ne_eq, not_false_eq_true, *]; done)) (by assumption) (by assumption) (by assumption) (by intro e; simp_all) (by intro e; simp_all) (by intro e; simp_all) _ (fun g' hu' hg' => ⟨_, by assumption, by simp [cutL], hg', hu'⟩) _ 70 e7 rfl)
          | (refine cSeq ?_) | (refine cNorm ?_) | (refine cRet ?_) | (refine cExit ?_) | (refine W_reg rfl ?_) | (refine W_block ?_) | (refine W_ret ?_) | (refine W_skip ?_) | (refine W_exit ?_) | (refine bNorm ?_) | (refine bRet ?_) | (refine bExit ?_) | (refine bExitN rfl ?_)
          | (refine xMask ?_) | (refine xT ?_) | (refine xF ?_) | (refine xRet ?_) | (refine xNorm ?_)
          | (refine wSplit _ rfl (by (first | (simp only [go_sem, *]; (first | done | exact rfl)) | rfl)) ?_ ?_ <;> intro hb <;> (try simp only [beq_false, beq_true, Bool.not_true, Bool.not_false, Bool.not_eq_true', Bool.not_eq_false', decide_eq_false_iff_not, decide_eq_true_eq, bne_iff_ne, beq_iff_eq, Bool.true_eq, Bool.false_eq, Bool.not_not, Bool.and_eq_true, Bool.or_eq_true, Bool.bne_true, Bool.bne_false, bne_eq_false_iff_eq, beq_eq_false_iff_ne, ne_eq] at hb))
          | (refine W_cond _ (by (first | (simp only [go_sem, *]; (first | done | exact rfl)) | rfl)) ?_ ?_ <;> intro hb <;> (try simp only [beq_false, beq_true, Bool.not_true, Bool.not_false, Bool.not_eq_true', Bool.not_eq_false', decide_eq_false_iff_not, decide_eq_true_eq, bne_iff_ne, beq_iff_eq, Bool.true_eq, Bool.false_eq, Bool.not_not, Bool.and_eq_true, Bool.or_eq_true, Bool.bne_true, Bool.bne_false, bne_eq_false_iff_eq, beq_eq_false_iff_ne, ne_eq] at hb)))
end Go.Proofs.YtgekngfnhhdamaaI
set_option linter.unusedVariables false
set_option linter.unusedSimpArgs false
set_option maxRecDepth 100000
set_option maxHeartbeats 4000000
namespace Go.Proofs.YtgekngfnhhdamaaI
open Go Go.Proofs.YtgekngfnhhdamaaM
attribute [local go_sem] aop ev fg_slc fg_slk fg_ptr fg_bool fg_int fg_str fg_iface fg_func fg_agg fg_tup fg_nils fg_nilp fg_nilI fg_nilF fg_und aboundsK alen_nils alen_slc alen_slk aslice_nils aslice_slc aslice_slk awanted abin aun aint aeqn aeqc aeqs apart abounds abnd amaxi amaxiGo cells_agg cells_slc cells_slk cells_ptr cells_bool cells_int cells_str cells_iface cells_func cells_tup cells_nils cells_nilp cells_nilI cells_nilF cells_und sc_slc sc_slk sc_ptr sc_bool sc_int sc_str sc_iface sc_func sc_nils sc_nilp sc_nilI sc_nilF gd_zero gd_succ List.all_cons List.all_nil Bool.and_self Bool.and_true Bool.true_and List.length_cons List.length_nil Option.map_some Option.some.injEq cell_same cell_ne cell_ne' cellsAt_same cellsAt_ne cellsAt_ne' put_same put_of set_same set_ne set_ne' List.getElem?_cons_zero List.getElem?_cons_succ if_true if_false and_self and_true true_and ne_eq not_true_eq_false not_false_eq_true decide_true decide_false Bool.false_eq_true Bool.true_eq_false beq_self_eq_true bne_self_eq_false beq_true beq_false Bool.not_true Bool.not_false List.map_cons List.map_nil putL List.set_cons_zero List.set_cons_succ afill Nat.zero_le Nat.le_refl Nat.zero_add Nat.add_zero List.drop_zero List.drop_succ_cons List.take_zero List.take_succ_cons Bool.not_eq_true Bool.not_eq_false decide_eq_true_eq decide_eq_false_iff_not Int.toNat_zero Nat.sub_zero Int.toNat_natCast Bool.bne_true Bool.bne_false AH.cell AH.cellsAt AH.put Nat.mul_one Nat.one_mul Int.natCast_nonneg List.length_set bs_append bs_size bs_toList bs_extract bs_get List.cons_append List.nil_append List.append_nil Nat.sub_zero bne_self_eq_false beq_self_eq_true azeros Int.le_refl aapp
/-- A list of entries, to be read. -/
def Le (h : AH) (S : AV) (L : List En) : Prop := S = .nils ∧ L = [] ∨ ∃ i own, S = .slc i 0 L.length 4 ∧ h i = some ⟨own, L.flatMap eM⟩
theorem Le.len {h : AH} {S : AV} {L : List En} (hP : Le h S L) : alen S = some (L.length : Int) := by
  rcases hP with ⟨rfl, rfl⟩ | ⟨i, _, rfl, _⟩ <;> rfl
theorem Le.up {h h' : AH} {S : AV} {L : List En} (hP : Le h S L) (hu : Up h h') : Le h' S L := by
  rcases hP with h | ⟨i, o, h1, h2⟩
  · exact .inl h
  · exact .inr ⟨i, o, h1, hu _ _ h2⟩
/-- The same, in a block of its own. -/
def Po (h0 h : AH) (S : AV) (L : List En) : Prop := S = .nils ∧ L = [] ∨ ∃ i, h0 i = none ∧ S = .slc i 0 L.length 4 ∧ h i = some ⟨true, L.flatMap eM⟩
theorem Po.rd {h0 h : AH} {S : AV} {L : List En} (hP : Po h0 h S L) : Le h S L := by
  rcases hP with h | ⟨i, _, h1, h2⟩
  · exact .inl h
  · exact .inr ⟨i, true, h1, h2⟩
/-- A list of entries, to be read; there may be more behind it. -/
def Lg (h : AH) (S : AV) (L : List En) : Prop := S = .nils ∧ L = [] ∨ ∃ i own rest, S.fg = .slc i 0 L.length 4 ∧ h i = some ⟨own, L.flatMap eM ++ rest⟩
theorem Le.lg {h : AH} {S : AV} {L : List En} (hP : Le h S L) : Lg h S L := by
  rcases hP with h | ⟨i, o, rfl, h2⟩
  · exact .inl h
  · exact .inr ⟨i, o, [], rfl, by rw [List.append_nil]; exact h2⟩
theorem Lg.len {h : AH} {S : AV} {L : List En} (hP : Lg h S L) : alen S = some (L.length : Int) := by
  rcases hP with ⟨rfl, rfl⟩ | ⟨i, _, _, hf, _⟩
  · rfl
  · unfold alen; rw [hf]
theorem Lg.up {h h' : AH} {S : AV} {L : List En} (hP : Lg h S L) (hu : Up h h') : Lg h' S L := by
  rcases hP with h | ⟨i, o, r, h1, h2⟩
  · exact .inl h
  · exact .inr ⟨i, o, r, h1, hu _ _ h2⟩
theorem Lg.sc {h : AH} {S : AV} {L : List En} (hP : Lg h S L) : S.cells = [S] ∧ S.scalar = true := by
  rcases hP with ⟨rfl, _⟩ | ⟨i, _, _, hf, _⟩
  · exact ⟨rfl, rfl⟩
  · cases S <;> simp [AV.fg] at hf <;> exact ⟨rfl, rfl⟩
/-- Own -/
theorem sp47g (k1 k2 k3 k4 : Int) (C : Nat) (n1 s1 s2 : Int) (ok : Bool) (x : List UInt8) (S : AV) (L : List En) (h : AH) (hS : Lg h S L) (hl : L.length ≤ 1000) :
    Sp T 47 [.agg [.int .i64 k1, .int .i64 k2, .int .i64 k3, .int .i64 k4, .int .u64 (C : Int), .int .i64 n1, .int .i64 s1, .int .i64 s2, .bool ok, .str (bs x), S]] h (fun v h' => ∃ S', v = .agg [.int .i64 k1, .int .i64 k2, .int .i64 k3, .int .i64 k4, .int .u64 (C : Int), .int .i64 n1, .int .i64 s1, .int .i64 s2, .bool ok, .str (bs x), S'] ∧ Po h h' S' L ∧ Up h h') := by
  have hu0 := Up.refl h
  have hSl := hS.len
  have hSc := hS.sc
  obtain ⟨sc1, sc2⟩ := hSc
  refine Sp_of (fn := f47) rfl (show W T b47 [.agg [.int .i64 k1, .int .i64 k2, .int .i64 k3, .int .i64 k4, .int .u64 (C : Int), .int .i64 n1, .int .i64 s1, .int .i64 s2, .bool ok, .str (bs x), S], .tup [], .tup [], .tup [], .tup [], .tup [], .tup [], .tup [], .tup [], .tup [], .tup [], .tup [], .tup [], .tup [], .tup [], .tup [], .tup [], .tup [], .tup [], .tup [], .tup [], .tup [], .tup [], .tup [], .tup [], .tup [], .tup [], .tup [], .tup [], .tup [], .tup [], .tup [], .tup [], .tup [], .tup [], .tup [], .tup [], .tup [], .tup [], .tup [], .tup [], .tup [], .tup [], .tup [], .tup [], .tup []] _ _ from ?_)
  unfold b47
  repeat' (first
    | (refine wNil ?_) | (refine xPure ?_)
    | (refine xMk ?_; intro id hid; (try simp only [set_none_iff] at hid); have hz := hid; (repeat (replace hz := hz.2)); (try have := Up.none hu0 hz); refine mkDo ?_)
    | (refine xChk ?_) | (refine xChkF ?_) | (refine xSkip ?_)
    | (refine cSeq ?_) | (refine cNorm ?_) | (refine cRet ?_) | (refine cExit ?_) | (refine W_reg rfl ?_) | (refine W_block ?_) | (refine W_ret ?_) | (refine W_skip ?_) | (refine W_exit ?_) | (refine bNorm ?_) | (refine bRet ?_) | (refine bExit ?_) | (refine bExitN rfl ?_)
    | (refine xMask ?_) | (refine xT ?_) | (refine xF ?_) | (refine xRet ?_) | (refine xNorm ?_)
    | (refine wSplit _ rfl (by (first | (simp only [go_sem, *]; (first | done | exact rfl)) | rfl)) ?_ ?_ <;> intro hb <;> (try simp only [beq_false, beq_true, Bool.not_true, Bool.not_false, Bool.not_eq_true', Bool.not_eq_false', decide_eq_false_iff_not, decide_eq_true_eq, bne_iff_ne, beq_iff_eq, Bool.true_eq, Bool.false_eq, Bool.not_not, Bool.and_eq_true, Bool.or_eq_true, Bool.bne_true, Bool.bne_false, bne_eq_false_iff_eq, beq_eq_false_iff_ne, ne_eq] at hb))
    | (refine W_cond _ (by (first | (simp only [go_sem, *]; (first | done | exact rfl)) | rfl)) ?_ ?_ <;> intro hb <;> (try simp only [beq_false, beq_true, Bool.not_true, Bool.not_false, Bool.not_eq_true', Bool.not_eq_false', decide_eq_false_iff_not, decide_eq_true_eq, bne_iff_ne, beq_iff_eq, Bool.true_eq, Bool.false_eq, Bool.not_not, Bool.and_eq_true, Bool.or_eq_true, Bool.bne_true, Bool.bne_false, bne_eq_false_iff_eq, beq_eq_false_iff_ne, ne_eq] at hb)))
  rename_i b1 c1 z1 u1 b2 c2 z2 u2
  obtain ⟨b3, rfl⟩ : ∃ x, x = id := ⟨_, rfl⟩
  have n32 : b3 ≠ b2 := hid.1
  refine W_loop (fun m tm g => ∃ (k : Nat) (S' : AV), k + m = L.length ∧ Up h g ∧ g b2 = some ⟨true, [.int .i64 0, .int .i64 0, .int .i64 0, .int .i64 0, .int .u64 0, .int .i64 0, .int .i64 0, .int .i64 0, .bool false, .str ⟨#[]⟩, .nils]⟩ ∧ g b3 = some ⟨true, [.int .i64 k1, .int .i64 k2, .int .i64 k3, .int .i64 k4, .int .u64 (C : Int), .int .i64 n1, .int .i64 s1, .int .i64 s2, .bool ok, .str (bs x), S']⟩ ∧ Po h g S' (L.take k) ∧ keep [2, 3, 26, 27, 28] 0 tm = [.und, .und, .ptr b2 0, .ptr b3 0, .und, .und, .und, .und, .und, .und, .und, .und, .und, .und, .und, .und, .und, .und, .und, .und, .und, .und, .und, .und, .und, .und, S, .int .i64 (L.length : Int), .int .i64 (k : Int), .und, .und, .und, .und, .und, .und, .und, .und, .und, .und, .und, .und, .und, .und, .und, .und, .und]) L.length ⟨0, .nils, by omega, (by repeat' (first | assumption | exact Up.refl _ | refine Up.new ?_ ?_)), by simp only [set_ne, set_ne', set_same, ne_eq, not_false_eq_true, n32, Ne.symm n32, *], set_same, .inl ⟨rfl, by simp⟩, rfl⟩ ?_
  have hb3 := hz
  have hb2 := z2
  clear hid hz u2 u1 z2 z1 c2 c1 hu0 this
  rintro m tm g ⟨k, S', hk, hu, h2, h3, hP, htm⟩
  refine cSeq (cMask (cNorm ?_))
  rw [htm]; clear htm
  by_cases hkl : k < L.length
  · have d1 : (k : Int) < (L.length : Int) := by omega
    have d2 : (0 : Int) ≤ (k : Int) := by omega
    have w1 : IntKind.i64.wrap ((k : Int) + 1) = ((k + 1 : Nat) : Int) := by rw [wrap64 (by omega) (by omega)]; rfl
    obtain ⟨⟨y1, y2, y3, y4⟩, hy⟩ : ∃ y, L[k]? = some y := ⟨_, List.getElem?_eq_getElem hkl⟩
    have htk : L.take (k + 1) = L.take k ++ [(y1, y2, y3, y4)] := by rw [List.take_add_one, hy]; rfl
    rcases hS with ⟨rfl, rfl⟩ | ⟨iL, own, rest, hfg, hL⟩
    · simp at hkl
    have hLg := hu _ _ hL
    obtain ⟨g1, g2⟩ := flat_get eMz hy rest
    simp only [eM] at g2
    have hpl : (L.take k).length = k := by rw [List.length_take]; omega
    have r2 : 40 ≤ roomMost := by unfold roomMost; omega
    rcases hP with ⟨rfl, e0⟩ | ⟨j, j1, rfl, hj⟩
    · clear hpl
      repeat' (first
        | (refine wNil ?_) | (refine xPure ?_)
        | (refine xMk ?_; intro id hid; (try simp only [set_none_iff] at hid); have hz := hid; (repeat (replace hz := hz.2)); (try have := nei h2 hz); (try have := nei h3 hz); (try have := nei hLg hz); (try have := Up.none hu hz); refine mkDo ?_)
        | (refine xChk ?_) | (refine xChkF ?_) | (refine xSkip ?_)
        | (refine cSeq ?_) | (refine cNorm ?_) | (refine cRet ?_) | (refine cExit ?_) | (refine W_reg rfl ?_) | (refine W_block ?_) | (refine W_ret ?_) | (refine W_skip ?_) | (refine W_exit ?_) | (refine bNorm ?_) | (refine bRet ?_) | (refine bExit ?_) | (refine bExitN rfl ?_)
        | (refine xMask ?_) | (refine xT ?_) | (refine xF ?_) | (refine xRet ?_) | (refine xNorm ?_)
        | (refine wSplit _ rfl (by (first | (simp only [go_sem, *]; (first | done | exact rfl)) | rfl)) ?_ ?_ <;> intro hb <;> (try simp only [beq_false, beq_true, Bool.not_true, Bool.not_false, Bool.not_eq_true', Bool.not_eq_false', decide_eq_false_iff_not, decide_eq_true_eq, bne_iff_ne, beq_iff_eq, Bool.true_eq, Bool.false_eq, Bool.not_not, Bool.and_eq_true, Bool.or_eq_true, Bool.bne_true, Bool.bne_false, bne_eq_false_iff_eq, beq_eq_false_iff_ne, ne_eq] at hb))
        | (refine W_cond _ (by (first | (simp only [go_sem, *]; (first | done | exact rfl)) | rfl)) ?_ ?_ <;> intro hb <;> (try simp only [beq_false, beq_true, Bool.not_true, Bool.not_false, Bool.not_eq_true', Bool.not_eq_false', decide_eq_false_iff_not, decide_eq_true_eq, bne_iff_ne, beq_iff_eq, Bool.true_eq, Bool.false_eq, Bool.not_not, Bool.and_eq_true, Bool.or_eq_true, Bool.bne_true, Bool.bne_false, bne_eq_false_iff_eq, beq_eq_false_iff_ne, ne_eq] at hb)))
      exact ⟨m - 1, by omega, k + 1, .slc id 0 1 4, by omega, (by repeat' (first | assumption | exact Up.refl _ | refine Up.new ?_ ?_)), by simp only [set_ne, set_ne', ne_eq, not_false_eq_true, *], set_same, .inr ⟨id, by assumption, by rw [htk, e0]; rfl, by rw [htk, e0, set_ne (Ne.symm (by assumption)), set_same]; rfl⟩, by simp only [keep, List.contains_cons, List.contains_nil, Nat.reduceBEq, Bool.or_true, Bool.true_or, Bool.or_false, Bool.false_or, if_true, if_false, Bool.false_eq_true, beq_self_eq_true, Nat.zero_add, Nat.reduceAdd, eq_self]⟩
    · have r1 : ((L.take k).length + 1) * 40 ≤ roomMost := by rw [hpl]; unfold roomMost; omega
      have r3 := flat_len eMz (L.take k)
      have r4 : List.take ((L.take k).length * 4) ((L.take k).flatMap eM) = (L.take k).flatMap eM := List.take_of_length_le (by omega)
      have nj3 : j ≠ b3 := fun e => by
        subst e; rw [hj] at h3
        have := congrArg (fun b => (b.map fun b => b.cells.length)) h3
        simp [r3] at this; omega
      have nj2 : j ≠ b2 := fun e => by
        subst e; rw [hj] at h2
        have := congrArg (fun b => (b.map fun b => b.cells.length)) h2
        simp [r3] at this; omega
      clear hpl
      repeat' (first
        | (refine wNil ?_) | (refine xPure ?_)
        | (refine xMk ?_; intro id hid; (try simp only [set_none_iff] at hid); have hz := hid; (repeat (replace hz := hz.2)); (try have := nei h2 hz); (try have := nei h3 hz); (try have := nei hLg hz); (try have := nei hj hz); (try have := Up.none hu hz); refine mkDo ?_)
        | (refine xChk ?_) | (refine xChkF ?_) | (refine xSkip ?_)
        | (refine cSeq ?_) | (refine cNorm ?_) | (refine cRet ?_) | (refine cExit ?_) | (refine W_reg rfl ?_) | (refine W_block ?_) | (refine W_ret ?_) | (refine W_skip ?_) | (refine W_exit ?_) | (refine bNorm ?_) | (refine bRet ?_) | (refine bExit ?_) | (refine bExitN rfl ?_)
        | (refine xMask ?_) | (refine xT ?_) | (refine xF ?_) | (refine xRet ?_) | (refine xNorm ?_)
        | (refine wSplit _ rfl (by (first | (simp only [go_sem, *]; (first | done | exact rfl)) | rfl)) ?_ ?_ <;> intro hb <;> (try simp only [beq_false, beq_true, Bool.not_true, Bool.not_false, Bool.not_eq_true', Bool.not_eq_false', decide_eq_false_iff_not, decide_eq_true_eq, bne_iff_ne, beq_iff_eq, Bool.true_eq, Bool.false_eq, Bool.not_not, Bool.and_eq_true, Bool.or_eq_true, Bool.bne_true, Bool.bne_false, bne_eq_false_iff_eq, beq_eq_false_iff_ne, ne_eq] at hb))
        | (refine W_cond _ (by (first | (simp only [go_sem, *]; (first | done | exact rfl)) | rfl)) ?_ ?_ <;> intro hb <;> (try simp only [beq_false, beq_true, Bool.not_true, Bool.not_false, Bool.not_eq_true', Bool.not_eq_false', decide_eq_false_iff_not, decide_eq_true_eq, bne_iff_ne, beq_iff_eq, Bool.true_eq, Bool.false_eq, Bool.not_not, Bool.and_eq_true, Bool.or_eq_true, Bool.bne_true, Bool.bne_false, bne_eq_false_iff_eq, beq_eq_false_iff_ne, ne_eq] at hb)))
      exact ⟨m - 1, by omega, k + 1, .slc id 0 ((L.take k).length + 1) 4, by omega, (by repeat' (first | assumption | exact Up.refl _ | refine Up.new ?_ ?_)), by simp only [set_ne, set_ne', ne_eq, not_false_eq_true, *], set_same, .inr ⟨id, by assumption, by rw [htk, List.length_append]; rfl, by rw [htk, set_ne (Ne.symm (by assumption)), set_same, List.flatMap_append]; rfl⟩, by simp only [keep, List.contains_cons, List.contains_nil, Nat.reduceBEq, Bool.or_true, Bool.true_or, Bool.or_false, Bool.false_or, if_true, if_false, Bool.false_eq_true, beq_self_eq_true, Nat.zero_add, Nat.reduceAdd, eq_self]⟩
  · have d1 : ¬ (k : Int) < (L.length : Int) := by omega
    rw [List.take_of_length_le (by omega)] at hP
    have sc3 : S'.scalar = true := by rcases hP with ⟨rfl, _⟩ | ⟨j, _, rfl, _⟩ <;> rfl
    repeat' (first
      | (refine wNil ?_) | (refine xPure ?_)
      | (refine xMk ?_; intro id hid; (try simp only [set_none_iff] at hid); refine mkDo ?_)
      | (refine xChk ?_) | (refine xChkF ?_) | (refine xSkip ?_)
      | (refine cSeq ?_) | (refine cNorm ?_) | (refine cRet ?_) | (refine cExit ?_) | (refine W_reg rfl ?_) | (refine W_block ?_) | (refine W_ret ?_) | (refine W_skip ?_) | (refine W_exit ?_) | (refine bNorm ?_) | (refine bRet ?_) | (refine bExit ?_) | (refine bExitN rfl ?_)
      | (refine xMask ?_) | (refine xT ?_) | (refine xF ?_) | (refine xRet ?_) | (refine xNorm ?_)
      | (refine wSplit _ rfl (by (first | (simp only [go_sem, *]; (first | done | exact rfl)) | rfl)) ?_ ?_ <;> intro hb <;> (try simp only [beq_false, beq_true, Bool.not_true, Bool.not_false, Bool.not_eq_true', Bool.not_eq_false', decide_eq_false_iff_not, decide_eq_true_eq, bne_iff_ne, beq_iff_eq, Bool.true_eq, Bool.false_eq, Bool.not_not, Bool.and_eq_true, Bool.or_eq_true, Bool.bne_true, Bool.bne_false, bne_eq_false_iff_eq, beq_eq_false_iff_ne, ne_eq] at hb))
      | (refine W_cond _ (by (first | (simp only [go_sem, *]; (first | done | exact rfl)) | rfl)) ?_ ?_ <;> intro hb <;> (try simp only [beq_false, beq_true, Bool.not_true, Bool.not_false, Bool.not_eq_true', Bool.not_eq_false', decide_eq_false_iff_not, decide_eq_true_eq, bne_iff_ne, beq_iff_eq, Bool.true_eq, Bool.false_eq, Bool.not_not, Bool.and_eq_true, Bool.or_eq_true, Bool.bne_true, Bool.bne_false, bne_eq_false_iff_eq, beq_eq_false_iff_ne, ne_eq] at hb)))
    all_goals (refine ⟨[.agg [.int .i64 k1, .int .i64 k2, .int .i64 k3, .int .i64 k4, .int .u64 (C : Int), .int .i64 n1, .int .i64 s1, .int .i64 s2, .bool ok, .str (bs x), S']], (by simp [ares, ares1, f47, ev, AH.cellsAt, AH.cell, set_same, set_ne', *]), S', rfl, ?_, Up.new hu hb2⟩)
    rcases hP with hP | ⟨j, j1, j2, j3⟩
    · exact .inl hP
    · refine .inr ⟨j, j1, j2, ?_⟩
      rw [set_ne]; exact j3
      rintro rfl
      rw [j3] at h2
      have := congrArg (fun b => (b.map fun b => b.cells.length)) h2
      simp [flat_len eMz] at this; omega
theorem sp47 (k1 k2 k3 k4 : Int) (C : Nat) (n1 s1 s2 : Int) (ok : Bool) (x : List UInt8) (S : AV) (L : List En) (h : AH) (hS : Le h S L) (hl : L.length ≤ 1000) :
    Sp T 47 [.agg [.int .i64 k1, .int .i64 k2, .int .i64 k3, .int .i64 k4, .int .u64 (C : Int), .int .i64 n1, .int .i64 s1, .int .i64 s2, .bool ok, .str (bs x), S]] h (fun v h' => ∃ S', v = .agg [.int .i64 k1, .int .i64 k2, .int .i64 k3, .int .i64 k4, .int .u64 (C : Int), .int .i64 n1, .int .i64 s1, .int .i64 s2, .bool ok, .str (bs x), S'] ∧ Po h h' S' L ∧ Up h h') := sp47g k1 k2 k3 k4 C n1 s1 s2 ok x S L h hS.lg hl
end Go.Proofs.YtgekngfnhhdamaaI
set_option linter.unusedVariables false
set_option linter.unusedSimpArgs false
set_option maxRecDepth 100000
set_option maxHeartbeats 4000000
namespace Go.Proofs.YtgekngfnhhdamaaI
open Go Go.Proofs.YtgekngfnhhdamaaM
attribute [local go_sem] aop ev fg_slc fg_slk fg_ptr fg_bool fg_int fg_str fg_iface fg_func fg_agg fg_tup fg_nils fg_nilp fg_nilI fg_nilF fg_und aboundsK alen_nils alen_slc alen_slk aslice_nils aslice_slc aslice_slk awanted abin aun aint aeqn aeqc aeqs apart abounds abnd amaxi amaxiGo cells_agg cells_slc cells_slk cells_ptr cells_bool cells_int cells_str cells_iface cells_func cells_tup cells_nils cells_nilp cells_nilI cells_nilF cells_und sc_slc sc_slk sc_ptr sc_bool sc_int sc_str sc_iface sc_func sc_nils sc_nilp sc_nilI sc_nilF gd_zero gd_succ List.all_cons List.all_nil Bool.and_self Bool.and_true Bool.true_and List.length_cons List.length_nil Option.map_some Option.some.injEq cell_same cell_ne cell_ne' cellsAt_same cellsAt_ne cellsAt_ne' put_same put_of set_same set_ne set_ne' List.getElem?_cons_zero List.getElem?_cons_succ if_true if_false and_self and_true true_and ne_eq not_true_eq_false not_false_eq_true decide_true decide_false Bool.false_eq_true Bool.true_eq_false beq_self_eq_true bne_self_eq_false beq_true beq_false Bool.not_true Bool.not_false List.map_cons List.map_nil putL List.set_cons_zero List.set_cons_succ afill Nat.zero_le Nat.le_refl Nat.zero_add Nat.add_zero List.drop_zero List.drop_succ_cons List.take_zero List.take_succ_cons Bool.not_eq_true Bool.not_eq_false decide_eq_true_eq decide_eq_false_iff_not Int.toNat_zero Nat.sub_zero Int.toNat_natCast Bool.bne_true Bool.bne_false AH.cell AH.cellsAt AH.put Nat.mul_one Nat.one_mul Int.natCast_nonneg List.length_set bs_append bs_size bs_toList bs_extract bs_get List.cons_append List.nil_append List.append_nil Nat.sub_zero bne_self_eq_false beq_self_eq_true azeros Int.le_refl
/-- Do slots rise? -/
def ris : Int → List En → Bool
  | _, [] => true
  | last, y :: L => decide (last < y.1) && ris y.1 L
def T4c : ICode := (.seq (.reg [(0, false)] r48_19)
 (.seq (.seq (.reg [(0, false), (1, false), (2, false), (3, false)] r48_20)
 (.seq (.block 4 (.loop (.seq (.mask [7, 89, 90, 91]) (.seq (.reg [(0, false)] r48_21)
 (.seq (.cond (.t 92) .skip
 (.exit 4))
 (.seq (.seq (.block 5 (.seq (.reg [(0, false), (1, false), (2, false), (3, false)] r48_22)
 (.seq (.seq (.reg [(0, false), (1, false), (2, false), (3, false)] r48_23)
 (.cond (.t 98) (.seq (.reg [(0, false)] r48_24)
 .ret)
 .skip))
 (.reg [(0, false), (1, false), (2, false)] r48_25)))) (.mask [7, 89, 90, 91]))
 (.reg [(0, false), (1, false)] r48_26))))))) (.mask [])))
 (.seq (.reg [(0, false)] r48_27)
 .ret)))
theorem tail48d (k1 k2 k3 k4 : Int) (C : Nat) (n1 s1 s2 : Int) (ok : Bool) (x : List UInt8) (S : AV) (L : List En) (own : Bool) (g : AH) (b1 : List Nat) (h1 : g b1 = some ⟨own, [.int .i64 k1, .int .i64 k2, .int .i64 k3, .int .i64 k4, .int .u64 (C : Int), .int .i64 n1, .int .i64 s1, .int .i64 s2, .bool ok, .str (bs x), S]⟩) (hS : Le g S L) (hl : L.length ≤ 1000) (Q : AV → AH → Prop) (hQ : ∀ g', Up g g' → Q (.int .i64 (if ris (-1) L then 0 else 4)) g') :
    W T T4c [.und, .ptr b1 0, .und, .und, .und, .und, .und, .und, .und, .und, .und, .und, .und, .und, .und, .und, .und, .und, .und, .und, .und, .und, .und, .und, .und, .und, .und, .und, .und, .und, .und, .und, .und, .und, .und, .und, .und, .und, .und, .und, .und, .und, .und, .und, .und, .und, .und, .und, .und, .und, .und, .und, .und, .und, .und, .und, .und, .und, .und, .und, .und, .und, .und, .und, .und, .und, .und, .und, .und, .und, .und, .und, .und, .und, .und, .und, .und, .und, .und, .und, .und, .und, .und, .und, .und, .und, .und, .und, .und, .und, .und, .und, .und, .und, .und, .und, .und, .und, .und, .und, .und, .und] g (Rets f48 Q) := by
  have hSl := hS.len
  unfold T4c
  repeat' (first
    | (refine wNil ?_) | (refine xPure ?_)
    | (refine xMk ?_; intro id hid; (try simp only [set_none_iff] at hid); refine mkDo ?_)
    | (refine xChk ?_) | (refine xChkF ?_) | (refine xSkip ?_)
    | (refine cSeq ?_) | (refine cNorm ?_) | (refine cRet ?_) | (refine cExit ?_) | (refine W_reg rfl ?_) | (refine W_block ?_) | (refine W_ret ?_) | (refine W_skip ?_) | (refine W_exit ?_) | (refine bNorm ?_) | (refine bRet ?_) | (refine bExit ?_) | (refine bExitN rfl ?_)
    | (refine xMask ?_) | (refine xT ?_) | (refine xF ?_) | (refine xRet ?_) | (refine xNorm ?_)
    | (refine wSplit _ rfl (by (first | (simp only [go_sem, *]; (first | done | exact rfl)) | rfl)) ?_ ?_ <;> intro hb <;> (try simp only [beq_false, beq_true, Bool.not_true, Bool.not_false, Bool.not_eq_true', Bool.not_eq_false', decide_eq_false_iff_not, decide_eq_true_eq, bne_iff_ne, beq_iff_eq, Bool.true_eq, Bool.false_eq, Bool.not_not, Bool.and_eq_true, Bool.or_eq_true, Bool.bne_true, Bool.bne_false, bne_eq_false_iff_eq, beq_eq_false_iff_ne, ne_eq] at hb))
    | (refine W_cond _ (by (first | (simp only [go_sem, *]; (first | done | exact rfl)) | rfl)) ?_ ?_ <;> intro hb <;> (try simp only [beq_false, beq_true, Bool.not_true, Bool.not_false, Bool.not_eq_true', Bool.not_eq_false', decide_eq_false_iff_not, decide_eq_true_eq, bne_iff_ne, beq_iff_eq, Bool.true_eq, Bool.false_eq, Bool.not_not, Bool.and_eq_true, Bool.or_eq_true, Bool.bne_true, Bool.bne_false, bne_eq_false_iff_eq, beq_eq_false_iff_ne, ne_eq] at hb)))
  refine W_loop (fun m tm g' => ∃ (k : Nat) (last : Int), k + m = L.length ∧ Up g g' ∧ ris (-1) L = ris last (L.drop k) ∧ keep [7, 89, 90, 91] 0 tm = [.und, .und, .und, .und, .und, .und, .und, .int .i64 last, .und, .und, .und, .und, .und, .und, .und, .und, .und, .und, .und, .und, .und, .und, .und, .und, .und, .und, .und, .und, .und, .und, .und, .und, .und, .und, .und, .und, .und, .und, .und, .und, .und, .und, .und, .und, .und, .und, .und, .und, .und, .und, .und, .und, .und, .und, .und, .und, .und, .und, .und, .und, .und, .und, .und, .und, .und, .und, .und, .und, .und, .und, .und, .und, .und, .und, .und, .und, .und, .und, .und, .und, .und, .und, .und, .und, .und, .und, .und, .und, .und, S, .int .i64 (L.length : Int), .int .i64 (k : Int), .und, .und, .und, .und, .und, .und, .und, .und, .und, .und]) L.length ⟨0, -1, by omega, Up.refl _, by rw [List.drop_zero], rfl⟩ ?_
  rintro m tm g' ⟨k, last, hk, hu, hr, htm⟩
  refine cSeq (cMask (cNorm ?_))
  rw [htm]; clear htm
  by_cases hkl : k < L.length
  · have d1 : (k : Int) < (L.length : Int) := by omega
    have d2 : (0 : Int) ≤ (k : Int) := by omega
    have w1 : IntKind.i64.wrap ((k : Int) + 1) = ((k + 1 : Nat) : Int) := by rw [wrap64 (by omega) (by omega)]; rfl
    obtain ⟨⟨y1, y2, y3, y4⟩, hy⟩ : ∃ y, L[k]? = some y := ⟨_, List.getElem?_eq_getElem hkl⟩
    have hdr : L.drop k = (y1, y2, y3, y4) :: L.drop (k + 1) := by rw [List.drop_eq_getElem_cons hkl, (List.getElem?_eq_some_iff.1 hy).2]
    rw [hdr, ris] at hr
    rcases hS with ⟨rfl, rfl⟩ | ⟨iL, ow, rfl, hL⟩
    · simp at hkl
    have hLg := hu _ _ hL
    obtain ⟨g1, g2⟩ := flat_get eMz hy []
    rw [List.append_nil] at g1 g2
    simp only [eM] at g2
    clear hdr hy
    by_cases hy1 : y1 ≤ last
    · have e : ris (-1) L = false := by rw [hr, decide_eq_false (by simp only; omega)]; rfl
      rw [e] at hQ
      clear hr e
      repeat' (first
        | (refine wNil ?_) | (refine xPure ?_)
        | (refine xMk ?_; intro id hid; (try simp only [set_none_iff] at hid); have hz := hid; (repeat (replace hz := hz.2)); (try have := nei hLg hz); (try have := Up.none hu hz); refine mkDo ?_)
        | (refine xChk ?_) | (refine xChkF ?_) | (refine xSkip ?_)
        | (refine cSeq ?_) | (refine cNorm ?_) | (refine cRet ?_) | (refine cExit ?_) | (refine W_reg rfl ?_) | (refine W_block ?_) | (refine W_ret ?_) | (refine W_skip ?_) | (refine W_exit ?_) | (refine bNorm ?_) | (refine bRet ?_) | (refine bExit ?_) | (refine bExitN rfl ?_)
        | (refine xMask ?_) | (refine xT ?_) | (refine xF ?_) | (refine xRet ?_) | (refine xNorm ?_)
        | (refine wSplit _ rfl (by (first | (simp only [go_sem, *]; (first | done | exact rfl)) | rfl)) ?_ ?_ <;> intro hb <;> (try simp only [beq_false, beq_true, Bool.not_true, Bool.not_false, Bool.not_eq_true', Bool.not_eq_false', decide_eq_false_iff_not, decide_eq_true_eq, bne_iff_ne, beq_iff_eq, Bool.true_eq, Bool.false_eq, Bool.not_not, Bool.and_eq_true, Bool.or_eq_true, Bool.bne_true, Bool.bne_false, bne_eq_false_iff_eq, beq_eq_false_iff_ne, ne_eq] at hb))
        | (refine W_cond _ (by (first | (simp only [go_sem, *]; (first | done | exact rfl)) | rfl)) ?_ ?_ <;> intro hb <;> (try simp only [beq_false, beq_true, Bool.not_true, Bool.not_false, Bool.not_eq_true', Bool.not_eq_false', decide_eq_false_iff_not, decide_eq_true_eq, bne_iff_ne, beq_iff_eq, Bool.true_eq, Bool.false_eq, Bool.not_not, Bool.and_eq_true, Bool.or_eq_true, Bool.bne_true, Bool.bne_false, bne_eq_false_iff_eq, beq_eq_false_iff_ne, ne_eq] at hb)))
      all_goals exact hQ _ (by repeat' (first | assumption | exact Up.refl _ | refine Up.new ?_ ?_))
    · have e : ris (-1) L = ris y1 (L.drop (k + 1)) := by rw [hr, decide_eq_true (by simp only; omega)]; rfl
      clear hr
      repeat' (first
        | (refine wNil ?_) | (refine xPure ?_)
        | (refine xMk ?_; intro id hid; (try simp only [set_none_iff] at hid); have hz := hid; (repeat (replace hz := hz.2)); (try have := nei hLg hz); (try have := Up.none hu hz); refine mkDo ?_)
        | (refine xChk ?_) | (refine xChkF ?_) | (refine xSkip ?_)
        | (refine cSeq ?_) | (refine cNorm ?_) | (refine cRet ?_) | (refine cExit ?_) | (refine W_reg rfl ?_) | (refine W_block ?_) | (refine W_ret ?_) | (refine W_skip ?_) | (refine W_exit ?_) | (refine bNorm ?_) | (refine bRet ?_) | (refine bExit ?_) | (refine bExitN rfl ?_)
        | (refine xMask ?_) | (refine xT ?_) | (refine xF ?_) | (refine xRet ?_) | (refine xNorm ?_)
        | (refine wSplit _ rfl (by (first | (simp only [go_sem, *]; (first | done | exact rfl)) | rfl)) ?_ ?_ <;> intro hb <;> (try simp only [beq_false, beq_true, Bool.not_true, Bool.not_false, Bool.not_eq_true', Bool.not_eq_false', decide_eq_false_iff_not, decide_eq_true_eq, bne_iff_ne, beq_iff_eq, Bool.true_eq, Bool.false_eq, Bool.not_not, Bool.and_eq_true, Bool.or_eq_true, Bool.bne_true, Bool.bne_false, bne_eq_false_iff_eq, beq_eq_false_iff_ne, ne_eq] at hb))
        | (refine W_cond _ (by (first | (simp only [go_sem, *]; (first | done | exact rfl)) | rfl)) ?_ ?_ <;> intro hb <;> (try simp only [beq_false, beq_true, Bool.not_true, Bool.not_false, Bool.not_eq_true', Bool.not_eq_false', decide_eq_false_iff_not, decide_eq_true_eq, bne_iff_ne, beq_iff_eq, Bool.true_eq, Bool.false_eq, Bool.not_not, Bool.and_eq_true, Bool.or_eq_true, Bool.bne_true, Bool.bne_false, bne_eq_false_iff_eq, beq_eq_false_iff_ne, ne_eq] at hb)))
      all_goals exact ⟨m - 1, by omega, k + 1, y1, by omega, (by repeat' (first | assumption | exact Up.refl _ | refine Up.new ?_ ?_)), e, by simp only [keep, List.contains_cons, List.contains_nil, Nat.reduceBEq, Bool.or_true, Bool.true_or, Bool.or_false, Bool.false_or, if_true, if_false, Bool.false_eq_true, beq_self_eq_true, Nat.zero_add, Nat.reduceAdd, eq_self]⟩
  · have d1 : ¬ (k : Int) < (L.length : Int) := by omega
    rw [List.drop_of_length_le (by omega), ris] at hr
    rw [hr] at hQ
    clear hr
    repeat' (first
      | (refine wNil ?_) | (refine xPure ?_)
      | (refine xMk ?_; intro id hid; (try simp only [set_none_iff] at hid); refine mkDo ?_)
      | (refine xChk ?_) | (refine xChkF ?_) | (refine xSkip ?_)
      | (refine cSeq ?_) | (refine cNorm ?_) | (refine cRet ?_) | (refine cExit ?_) | (refine W_reg rfl ?_) | (refine W_block ?_) | (refine W_ret ?_) | (refine W_skip ?_) | (refine W_exit ?_) | (refine bNorm ?_) | (refine bRet ?_) | (refine bExit ?_) | (refine bExitN rfl ?_)
      | (refine xMask ?_) | (refine xT ?_) | (refine xF ?_) | (refine xRet ?_) | (refine xNorm ?_)
      | (refine wSplit _ rfl (by (first | (simp only [go_sem, *]; (first | done | exact rfl)) | rfl)) ?_ ?_ <;> intro hb <;> (try simp only [beq_false, beq_true, Bool.not_true, Bool.not_false, Bool.not_eq_true', Bool.not_eq_false', decide_eq_false_iff_not, decide_eq_true_eq, bne_iff_ne, beq_iff_eq, Bool.true_eq, Bool.false_eq, Bool.not_not, Bool.and_eq_true, Bool.or_eq_true, Bool.bne_true, Bool.bne_false, bne_eq_false_iff_eq, beq_eq_false_iff_ne, ne_eq] at hb))
      | (refine W_cond _ (by (first | (simp only [go_sem, *]; (first | done | exact rfl)) | rfl)) ?_ ?_ <;> intro hb <;> (try simp only [beq_false, beq_true, Bool.not_true, Bool.not_false, Bool.not_eq_true', Bool.not_eq_false', decide_eq_false_iff_not, decide_eq_true_eq, bne_iff_ne, beq_iff_eq, Bool.true_eq, Bool.false_eq, Bool.not_not, Bool.and_eq_true, Bool.or_eq_true, Bool.bne_true, Bool.bne_false, bne_eq_false_iff_eq, beq_eq_false_iff_ne, ne_eq] at hb)))
    all_goals exact hQ _ hu
end Go.Proofs.YtgekngfnhhdamaaI
set_option linter.unusedVariables false
set_option linter.unusedSimpArgs false
set_option maxRecDepth 100000
set_option maxHeartbeats 4000000
namespace Go.Proofs.YtgekngfnhhdamaaI
open Go Go.Proofs.YtgekngfnhhdamaaM
attribute [local go_sem] aop ev fg_slc fg_slk fg_ptr fg_bool fg_int fg_str fg_iface fg_func fg_agg fg_tup fg_nils fg_nilp fg_nilI fg_nilF fg_und aboundsK alen_nils alen_slc alen_slk aslice_nils aslice_slc aslice_slk awanted abin aun aint aeqn aeqc aeqs apart abounds abnd amaxi amaxiGo cells_agg cells_slc cells_slk cells_ptr cells_bool cells_int cells_str cells_iface cells_func cells_tup cells_nils cells_nilp cells_nilI cells_nilF cells_und sc_slc sc_slk sc_ptr sc_bool sc_int sc_str sc_iface sc_func sc_nils sc_nilp sc_nilI sc_nilF gd_zero gd_succ List.all_cons List.all_nil Bool.and_self Bool.and_true Bool.true_and List.length_cons List.length_nil Option.map_some Option.some.injEq cell_same cell_ne cell_ne' cellsAt_same cellsAt_ne cellsAt_ne' put_same put_of set_same set_ne set_ne' List.getElem?_cons_zero List.getElem?_cons_succ if_true if_false and_self and_true true_and ne_eq not_true_eq_false not_false_eq_true decide_true decide_false Bool.false_eq_true Bool.true_eq_false beq_self_eq_true bne_self_eq_false beq_true beq_false Bool.not_true Bool.not_false List.map_cons List.map_nil putL List.set_cons_zero List.set_cons_succ afill Nat.zero_le Nat.le_refl Nat.zero_add Nat.add_zero List.drop_zero List.drop_succ_cons List.take_zero List.take_succ_cons Bool.not_eq_true Bool.not_eq_false decide_eq_true_eq decide_eq_false_iff_not Int.toNat_zero Nat.sub_zero Int.toNat_natCast Bool.bne_true Bool.bne_false AH.cell AH.cellsAt AH.put Nat.mul_one Nat.one_mul Int.natCast_nonneg List.length_set bs_append bs_size bs_toList bs_extract bs_get List.cons_append List.nil_append List.append_nil Nat.sub_zero bne_self_eq_false beq_self_eq_true azeros Int.le_refl
def p4 (y : En) : Bool := decide (y.2.2.2.length ≤ 400)
def p2 (y : En) : Bool := snd y.2.1 y.2.2.1 && decide (0 ≤ y.1 ∧ y.1 ≤ 1099511627776)
def r4 (L : List En) : Int := if ris (-1) L then 0 else 4
def r3 (L : List En) : Int := if L.all p4 then r4 L else 6
def r2 (x : List UInt8) (L : List En) : Int := if x.length ≤ 131072 ∧ L.length ≤ 64 then r3 L else 6
def r1 (x : List UInt8) (L : List En) : Int := if L.all p2 then r2 x L else 2
def T3c : ICode := (.seq (.block 2 (.loop (.seq (.mask [1, 77, 78, 79]) (.seq (.reg [(0, false)] r48_14)
 (.seq (.cond (.t 80) .skip
 (.exit 2))
 (.seq (.seq (.block 3 (.seq (.reg [(0, false), (1, false), (2, false), (3, false)] r48_15)
 (.seq (.reg [(0, false), (1, false), (2, false), (3, false)] r48_16)
 (.cond (.t 86) (.seq (.reg [(0, false)] r48_17)
 .ret)
 .skip)))) (.mask [1, 77, 78, 79]))
 (.reg [(0, false), (1, false)] r48_18))))))) (.mask [1]))
def T2c : ICode := (.seq (.seq (.reg [(0, false), (1, false), (2, false), (3, false), (4, false), (5, false), (6, false), (7, false), (8, false), (9, false)] r48_11)
 (.cond (.t 75) (.seq (.reg [(0, false)] r48_12)
 .ret)
 .skip))
 (.seq (.seq (.reg [(0, false), (1, false), (2, false), (3, false)] r48_13)
 (.seq (.block 2 (.loop (.seq (.mask [1, 77, 78, 79]) (.seq (.reg [(0, false)] r48_14)
 (.seq (.cond (.t 80) .skip
 (.exit 2))
 (.seq (.seq (.block 3 (.seq (.reg [(0, false), (1, false), (2, false), (3, false)] r48_15)
 (.seq (.reg [(0, false), (1, false), (2, false), (3, false)] r48_16)
 (.cond (.t 86) (.seq (.reg [(0, false)] r48_17)
 .ret)
 .skip)))) (.mask [1, 77, 78, 79]))
 (.reg [(0, false), (1, false)] r48_18))))))) (.mask [1])))
 (.seq (.reg [(0, false)] r48_19)
 (.seq (.seq (.reg [(0, false), (1, false), (2, false), (3, false)] r48_20)
 (.seq (.block 4 (.loop (.seq (.mask [7, 89, 90, 91]) (.seq (.reg [(0, false)] r48_21)
 (.seq (.cond (.t 92) .skip
 (.exit 4))
 (.seq (.seq (.block 5 (.seq (.reg [(0, false), (1, false), (2, false), (3, false)] r48_22)
 (.seq (.seq (.reg [(0, false), (1, false), (2, false), (3, false)] r48_23)
 (.cond (.t 98) (.seq (.reg [(0, false)] r48_24)
 .ret)
 .skip))
 (.reg [(0, false), (1, false), (2, false)] r48_25)))) (.mask [7, 89, 90, 91]))
 (.reg [(0, false), (1, false)] r48_26))))))) (.mask [])))
 (.seq (.reg [(0, false)] r48_27)
 .ret)))))
def T1c : ICode := (.seq (.block 0 (.loop (.seq (.mask [1, 49, 50, 51]) (.seq (.reg [(0, false)] r48_6)
 (.seq (.cond (.t 52) .skip
 (.exit 0))
 (.seq (.seq (.block 1 (.seq (.reg [(0, false), (1, false), (2, false), (3, false)] r48_7)
 (.seq (.reg [(0, false), (1, false), (2, false), (3, false), (4, false), (5, false), (6, false), (7, false), (8, false), (9, false)] r48_8)
 (.cond (.t 64) (.seq (.reg [(0, false)] r48_9)
 .ret)
 .skip)))) (.mask [1, 49, 50, 51]))
 (.reg [(0, false), (1, false)] r48_10))))))) (.mask [1]))
theorem tail48c (k1 k2 k3 k4 : Int) (C : Nat) (n1 s1 s2 : Int) (ok : Bool) (x : List UInt8) (S : AV) (L : List En) (own : Bool) (g : AH) (b1 : List Nat) (h1 : g b1 = some ⟨own, [.int .i64 k1, .int .i64 k2, .int .i64 k3, .int .i64 k4, .int .u64 (C : Int), .int .i64 n1, .int .i64 s1, .int .i64 s2, .bool ok, .str (bs x), S]⟩) (hS : Le g S L) (hl : L.length ≤ 1000) (Q : AV → AH → Prop) (hQ : ∀ g', Up g g' → Q (.int .i64 (if L.all p4 then r4 L else 6)) g') (tm : List AV) (htm : keep [1, 77, 78, 79] 0 tm = [.und, .ptr b1 0, .und, .und, .und, .und, .und, .und, .und, .und, .und, .und, .und, .und, .und, .und, .und, .und, .und, .und, .und, .und, .und, .und, .und, .und, .und, .und, .und, .und, .und, .und, .und, .und, .und, .und, .und, .und, .und, .und, .und, .und, .und, .und, .und, .und, .und, .und, .und, .und, .und, .und, .und, .und, .und, .und, .und, .und, .und, .und, .und, .und, .und, .und, .und, .und, .und, .und, .und, .und, .und, .und, .und, .und, .und, .und, .und, S, .int .i64 (L.length : Int), .int .i64 0, .und, .und, .und, .und, .und, .und, .und, .und, .und, .und, .und, .und, .und, .und, .und, .und, .und, .und, .und, .und, .und, .und]) :
    W T T3c tm g (Then (fun tm' h' => W T T4c tm' h' (Rets f48 Q)) (Rets f48 Q)) := by
  have hSl := hS.len
  unfold T3c
  refine cSeq ?_
  refine W_block ?_
  refine W_loop (fun m tm g' => ∃ k : Nat, k + m = L.length ∧ Up g g' ∧ L.all p4 = (L.drop k).all p4 ∧ keep [1, 77, 78, 79] 0 tm = [.und, .ptr b1 0, .und, .und, .und, .und, .und, .und, .und, .und, .und, .und, .und, .und, .und, .und, .und, .und, .und, .und, .und, .und, .und, .und, .und, .und, .und, .und, .und, .und, .und, .und, .und, .und, .und, .und, .und, .und, .und, .und, .und, .und, .und, .und, .und, .und, .und, .und, .und, .und, .und, .und, .und, .und, .und, .und, .und, .und, .und, .und, .und, .und, .und, .und, .und, .und, .und, .und, .und, .und, .und, .und, .und, .und, .und, .und, .und, S, .int .i64 (L.length : Int), .int .i64 (k : Int), .und, .und, .und, .und, .und, .und, .und, .und, .und, .und, .und, .und, .und, .und, .und, .und, .und, .und, .und, .und, .und, .und]) L.length ⟨0, by omega, Up.refl _, by rw [List.drop_zero], htm⟩ ?_
  clear htm
  rintro m tm g' ⟨k, hk, hu, hr, htm⟩
  refine cSeq (cMask (cNorm ?_))
  rw [htm]; clear htm
  have h1g := hu _ _ h1
  by_cases hkl : k < L.length
  · have d1 : (k : Int) < (L.length : Int) := by omega
    have d2 : (0 : Int) ≤ (k : Int) := by omega
    have w1 : IntKind.i64.wrap ((k : Int) + 1) = ((k + 1 : Nat) : Int) := by rw [wrap64 (by omega) (by omega)]; rfl
    obtain ⟨⟨y1, y2, y3, y4⟩, hy⟩ : ∃ y, L[k]? = some y := ⟨_, List.getElem?_eq_getElem hkl⟩
    have hdr : L.drop k = (y1, y2, y3, y4) :: L.drop (k + 1) := by rw [List.drop_eq_getElem_cons hkl, (List.getElem?_eq_some_iff.1 hy).2]
    rw [hdr, List.all_cons] at hr
    rcases hS with ⟨rfl, rfl⟩ | ⟨iL, ow, rfl, hL⟩
    · simp at hkl
    have hLg := hu _ _ hL
    obtain ⟨g1, g2⟩ := flat_get eMz hy []
    rw [List.append_nil] at g1 g2
    simp only [eM] at g2
    clear hdr hy
    by_cases hp0 : y4.length ≤ 400
    · have d3 : ¬ (y4.length : Int) > 400 := by omega
      have hp : (p4 (y1, y2, y3, y4) && (L.drop (k + 1)).all p4) = (L.drop (k + 1)).all p4 := by rw [show p4 (y1, y2, y3, y4) = true from decide_eq_true hp0]; rfl
      repeat' (first
        | (refine wNil ?_) | (refine xPure ?_)
        | (refine xMk ?_; intro id hid; (try simp only [set_none_iff] at hid); have hz := hid; (repeat (replace hz := hz.2)); (try have := nei hLg hz); (try have := nei h1g hz); (try have := Up.none hu hz); refine mkDo ?_)
        | (refine xChk ?_) | (refine xChkF ?_) | (refine xSkip ?_)
        | (refine cSeq ?_) | (refine cNorm ?_) | (refine cRet ?_) | (refine cExit ?_) | (refine W_reg rfl ?_) | (refine W_block ?_) | (refine W_ret ?_) | (refine W_skip ?_) | (refine W_exit ?_) | (refine bNorm ?_) | (refine bRet ?_) | (refine bExit ?_) | (refine bExitN rfl ?_)
        | (refine xMask ?_) | (refine xT ?_) | (refine xF ?_) | (refine xRet ?_) | (refine xNorm ?_)
        | (refine wSplit _ rfl (by (first | (simp only [go_sem, *]; (first | done | exact rfl)) | rfl)) ?_ ?_ <;> intro hb <;> (try simp only [beq_false, beq_true, Bool.not_true, Bool.not_false, Bool.not_eq_true', Bool.not_eq_false', decide_eq_false_iff_not, decide_eq_true_eq, bne_iff_ne, beq_iff_eq, Bool.true_eq, Bool.false_eq, Bool.not_not, Bool.and_eq_true, Bool.or_eq_true, Bool.bne_true, Bool.bne_false, bne_eq_false_iff_eq, beq_eq_false_iff_ne, ne_eq] at hb))
        | (refine W_cond _ (by (first | (simp only [go_sem, *]; (first | done | exact rfl)) | rfl)) ?_ ?_ <;> intro hb <;> (try simp only [beq_false, beq_true, Bool.not_true, Bool.not_false, Bool.not_eq_true', Bool.not_eq_false', decide_eq_false_iff_not, decide_eq_true_eq, bne_iff_ne, beq_iff_eq, Bool.true_eq, Bool.false_eq, Bool.not_not, Bool.and_eq_true, Bool.or_eq_true, Bool.bne_true, Bool.bne_false, bne_eq_false_iff_eq, beq_eq_false_iff_ne, ne_eq] at hb)))
      all_goals exact ⟨m - 1, by omega, k + 1, by omega, (by repeat' (first | assumption | exact Up.refl _ | refine Up.new ?_ ?_)), by rw [hr]; exact hp, by simp only [keep, List.contains_cons, List.contains_nil, Nat.reduceBEq, Bool.or_true, Bool.true_or, Bool.or_false, Bool.false_or, if_true, if_false, Bool.false_eq_true, beq_self_eq_true, Nat.zero_add, Nat.reduceAdd, eq_self]⟩
    · have d3 : (y4.length : Int) > 400 := by omega
      have e : L.all p4 = false := by rw [hr, show p4 (y1, y2, y3, y4) = false from decide_eq_false hp0]; rfl
      rw [e] at hQ
      clear hr e
      repeat' (first
        | (refine wNil ?_) | (refine xPure ?_)
        | (refine xMk ?_; intro id hid; (try simp only [set_none_iff] at hid); have hz := hid; (repeat (replace hz := hz.2)); (try have := nei hLg hz); (try have := nei h1g hz); (try have := Up.none hu hz); refine mkDo ?_)
        | (refine xChk ?_) | (refine xChkF ?_) | (refine xSkip ?_)
        | (refine cSeq ?_) | (refine cNorm ?_) | (refine cRet ?_) | (refine cExit ?_) | (refine W_reg rfl ?_) | (refine W_block ?_) | (refine W_ret ?_) | (refine W_skip ?_) | (refine W_exit ?_) | (refine bNorm ?_) | (refine bRet ?_) | (refine bExit ?_) | (refine bExitN rfl ?_)
        | (refine xMask ?_) | (refine xT ?_) | (refine xF ?_) | (refine xRet ?_) | (refine xNorm ?_)
        | (refine wSplit _ rfl (by (first | (simp only [go_sem, *]; (first | done | exact rfl)) | rfl)) ?_ ?_ <;> intro hb <;> (try simp only [beq_false, beq_true, Bool.not_true, Bool.not_false, Bool.not_eq_true', Bool.not_eq_false', decide_eq_false_iff_not, decide_eq_true_eq, bne_iff_ne, beq_iff_eq, Bool.true_eq, Bool.false_eq, Bool.not_not, Bool.and_eq_true, Bool.or_eq_true, Bool.bne_true, Bool.bne_false, bne_eq_false_iff_eq, beq_eq_false_iff_ne, ne_eq] at hb))
        | (refine W_cond _ (by (first | (simp only [go_sem, *]; (first | done | exact rfl)) | rfl)) ?_ ?_ <;> intro hb <;> (try simp only [beq_false, beq_true, Bool.not_true, Bool.not_false, Bool.not_eq_true', Bool.not_eq_false', decide_eq_false_iff_not, decide_eq_true_eq, bne_iff_ne, beq_iff_eq, Bool.true_eq, Bool.false_eq, Bool.not_not, Bool.and_eq_true, Bool.or_eq_true, Bool.bne_true, Bool.bne_false, bne_eq_false_iff_eq, beq_eq_false_iff_ne, ne_eq] at hb)))
      all_goals exact hQ _ (by repeat' (first | assumption | exact Up.refl _ | refine Up.new ?_ ?_))
  · have d1 : ¬ (k : Int) < (L.length : Int) := by omega
    rw [List.drop_of_length_le (by omega), List.all_nil] at hr
    repeat' (first
      | (refine wNil ?_) | (refine xPure ?_)
      | (refine xMk ?_; intro id hid; (try simp only [set_none_iff] at hid); refine mkDo ?_)
      | (refine xChk ?_) | (refine xChkF ?_) | (refine xSkip ?_)
      | (exact tail48d k1 k2 k3 k4 C n1 s1 s2 ok x S L own g' b1 h1g (hS.up hu) hl Q (fun g'' hu' => by have := hQ g'' (hu.trans hu'); rw [hr] at this; exact this))
      | (refine cSeq ?_) | (refine cNorm ?_) | (refine cRet ?_) | (refine cExit ?_) | (refine W_reg rfl ?_) | (refine W_block ?_) | (refine W_ret ?_) | (refine W_skip ?_) | (refine W_exit ?_) | (refine bNorm ?_) | (refine bRet ?_) | (refine bExit ?_) | (refine bExitN rfl ?_)
      | (refine xMask ?_) | (refine xT ?_) | (refine xF ?_) | (refine xRet ?_) | (refine xNorm ?_)
      | (refine wSplit _ rfl (by (first | (simp only [go_sem, *]; (first | done | exact rfl)) | rfl)) ?_ ?_ <;> intro hb <;> (try simp only [beq_false, beq_true, Bool.not_true, Bool.not_false, Bool.not_eq_true', Bool.not_eq_false', decide_eq_false_iff_not, decide_eq_true_eq, bne_iff_ne, beq_iff_eq, Bool.true_eq, Bool.false_eq, Bool.not_not, Bool.and_eq_true, Bool.or_eq_true, Bool.bne_true, Bool.bne_false, bne_eq_false_iff_eq, beq_eq_false_iff_ne, ne_eq] at hb))
      | (refine W_cond _ (by (first | (simp only [go_sem, *]; (first | done | exact rfl)) | rfl)) ?_ ?_ <;> intro hb <;> (try simp only [beq_false, beq_true, Bool.not_true, Bool.not_false, Bool.not_eq_true', Bool.not_eq_false', decide_eq_false_iff_not, decide_eq_true_eq, bne_iff_ne, beq_iff_eq, Bool.true_eq, Bool.false_eq, Bool.not_not, Bool.and_eq_true, Bool.or_eq_true, Bool.bne_true, Bool.bne_false, bne_eq_false_iff_eq, beq_eq_false_iff_ne, ne_eq] at hb)))
theorem tail48b (k1 k2 k3 k4 : Int) (C : Nat) (n1 s1 s2 : Int) (ok : Bool) (x : List UInt8) (S : AV) (L : List En) (own : Bool) (g : AH) (b1 : List Nat) (h1 : g b1 = some ⟨own, [.int .i64 k1, .int .i64 k2, .int .i64 k3, .int .i64 k4, .int .u64 (C : Int), .int .i64 n1, .int .i64 s1, .int .i64 s2, .bool ok, .str (bs x), S]⟩) (hS : Le g S L) (hl : L.length ≤ 1000) (Q : AV → AH → Prop) (hQ : ∀ g', Up g g' → Q (.int .i64 (r2 x L)) g') :
    W T T2c [.und, .ptr b1 0, .und, .und, .und, .und, .und, .und, .und, .und, .und, .und, .und, .und, .und, .und, .und, .und, .und, .und, .und, .und, .und, .und, .und, .und, .und, .und, .und, .und, .und, .und, .und, .und, .und, .und, .und, .und, .und, .und, .und, .und, .und, .und, .und, .und, .und, .und, .und, .und, .und, .und, .und, .und, .und, .und, .und, .und, .und, .und, .und, .und, .und, .und, .und, .und, .und, .und, .und, .und, .und, .und, .und, .und, .und, .und, .und, .und, .und, .und, .und, .und, .und, .und, .und, .und, .und, .und, .und, .und, .und, .und, .und, .und, .und, .und, .und, .und, .und, .und, .und, .und] g (Rets f48 Q) := by
  have hSl := hS.len
  unfold T2c
  unfold r2 r3 at hQ
  by_cases c1 : x.length ≤ 131072
  · have d1 : ¬ (x.length : Int) > 131072 := by omega
    by_cases c2 : L.length ≤ 64
    · have d2 : ¬ (L.length : Int) > 64 := by omega
      rw [if_pos ⟨c1, c2⟩] at hQ
      repeat' (first
        | (refine wNil ?_) | (refine xPure ?_)
        | (refine xMk ?_; intro id hid; (try simp only [set_none_iff] at hid); refine mkDo ?_)
        | (refine xChk ?_) | (refine xChkF ?_) | (refine xSkip ?_)
        | (exact tail48c k1 k2 k3 k4 C n1 s1 s2 ok x S L own g b1 h1 hS hl Q hQ _ rfl)
        | (refine cSeq ?_) | (refine cNorm ?_) | (refine cRet ?_) | (refine cExit ?_) | (refine W_reg rfl ?_) | (refine W_block ?_) | (refine W_ret ?_) | (refine W_skip ?_) | (refine W_exit ?_) | (refine bNorm ?_) | (refine bRet ?_) | (refine bExit ?_) | (refine bExitN rfl ?_)
        | (refine xMask ?_) | (refine xT ?_) | (refine xF ?_) | (refine xRet ?_) | (refine xNorm ?_)
        | (refine wSplit _ rfl (by (first | (simp only [go_sem, *]; (first | done | exact rfl)) | rfl)) ?_ ?_ <;> intro hb <;> (try simp only [beq_false, beq_true, Bool.not_true, Bool.not_false, Bool.not_eq_true', Bool.not_eq_false', decide_eq_false_iff_not, decide_eq_true_eq, bne_iff_ne, beq_iff_eq, Bool.true_eq, Bool.false_eq, Bool.not_not, Bool.and_eq_true, Bool.or_eq_true, Bool.bne_true, Bool.bne_false, bne_eq_false_iff_eq, beq_eq_false_iff_ne, ne_eq] at hb))
        | (refine W_cond _ (by (first | (simp only [go_sem, *]; (first | done | exact rfl)) | rfl)) ?_ ?_ <;> intro hb <;> (try simp only [beq_false, beq_true, Bool.not_true, Bool.not_false, Bool.not_eq_true', Bool.not_eq_false', decide_eq_false_iff_not, decide_eq_true_eq, bne_iff_ne, beq_iff_eq, Bool.true_eq, Bool.false_eq, Bool.not_not, Bool.and_eq_true, Bool.or_eq_true, Bool.bne_true, Bool.bne_false, bne_eq_false_iff_eq, beq_eq_false_iff_ne, ne_eq] at hb)))
    · have d2 : (L.length : Int) > 64 := by omega
      rw [if_neg (fun hh => c2 hh.2)] at hQ
      repeat' (first
        | (refine wNil ?_) | (refine xPure ?_)
        | (refine xMk ?_; intro id hid; (try simp only [set_none_iff] at hid); refine mkDo ?_)
        | (refine xChk ?_) | (refine xChkF ?_) | (refine xSkip ?_)
        | (refine cSeq ?_) | (refine cNorm ?_) | (refine cRet ?_) | (refine cExit ?_) | (refine W_reg rfl ?_) | (refine W_block ?_) | (refine W_ret ?_) | (refine W_skip ?_) | (refine W_exit ?_) | (refine bNorm ?_) | (refine bRet ?_) | (refine bExit ?_) | (refine bExitN rfl ?_)
        | (refine xMask ?_) | (refine xT ?_) | (refine xF ?_) | (refine xRet ?_) | (refine xNorm ?_)
        | (refine wSplit _ rfl (by (first | (simp only [go_sem, *]; (first | done | exact rfl)) | rfl)) ?_ ?_ <;> intro hb <;> (try simp only [beq_false, beq_true, Bool.not_true, Bool.not_false, Bool.not_eq_true', Bool.not_eq_false', decide_eq_false_iff_not, decide_eq_true_eq, bne_iff_ne, beq_iff_eq, Bool.true_eq, Bool.false_eq, Bool.not_not, Bool.and_eq_true, Bool.or_eq_true, Bool.bne_true, Bool.bne_false, bne_eq_false_iff_eq, beq_eq_false_iff_ne, ne_eq] at hb))
        | (refine W_cond _ (by (first | (simp only [go_sem, *]; (first | done | exact rfl)) | rfl)) ?_ ?_ <;> intro hb <;> (try simp only [beq_false, beq_true, Bool.not_true, Bool.not_false, Bool.not_eq_true', Bool.not_eq_false', decide_eq_false_iff_not, decide_eq_true_eq, bne_iff_ne, beq_iff_eq, Bool.true_eq, Bool.false_eq, Bool.not_not, Bool.and_eq_true, Bool.or_eq_true, Bool.bne_true, Bool.bne_false, bne_eq_false_iff_eq, beq_eq_false_iff_ne, ne_eq] at hb)))
      all_goals exact hQ _ (Up.refl _)
  · have d1 : (x.length : Int) > 131072 := by omega
    rw [if_neg (fun hh => c1 hh.1)] at hQ
    repeat' (first
      | (refine wNil ?_) | (refine xPure ?_)
      | (refine xMk ?_; intro id hid; (try simp only [set_none_iff] at hid); refine mkDo ?_)
      | (refine xChk ?_) | (refine xChkF ?_) | (refine xSkip ?_)
      | (refine cSeq ?_) | (refine cNorm ?_) | (refine cRet ?_) | (refine cExit ?_) | (refine W_reg rfl ?_) | (refine W_block ?_) | (refine W_ret ?_) | (refine W_skip ?_) | (refine W_exit ?_) | (refine bNorm ?_) | (refine bRet ?_) | (refine bExit ?_) | (refine bExitN rfl ?_)
      | (refine xMask ?_) | (refine xT ?_) | (refine xF ?_) | (refine xRet ?_) | (refine xNorm ?_)
      | (refine wSplit _ rfl (by (first | (simp only [go_sem, *]; (first | done | exact rfl)) | rfl)) ?_ ?_ <;> intro hb <;> (try simp only [beq_false, beq_true, Bool.not_true, Bool.not_false, Bool.not_eq_true', Bool.not_eq_false', decide_eq_false_iff_not, decide_eq_true_eq, bne_iff_ne, beq_iff_eq, Bool.true_eq, Bool.false_eq, Bool.not_not, Bool.and_eq_true, Bool.or_eq_true, Bool.bne_true, Bool.bne_false, bne_eq_false_iff_eq, beq_eq_false_iff_ne, ne_eq] at hb))
      | (refine W_cond _ (by (first | (simp only [go_sem, *]; (first | done | exact rfl)) | rfl)) ?_ ?_ <;> intro hb <;> (try simp only [beq_false, beq_true, Bool.not_true, Bool.not_false, Bool.not_eq_true', Bool.not_eq_false', decide_eq_false_iff_not, decide_eq_true_eq, bne_iff_ne, beq_iff_eq, Bool.true_eq, Bool.false_eq, Bool.not_not, Bool.and_eq_true, Bool.or_eq_true, Bool.bne_true, Bool.bne_false, bne_eq_false_iff_eq, beq_eq_false_iff_ne, ne_eq] at hb)))
    all_goals exact hQ _ (Up.refl _)
theorem tail48a (k1 k2 k3 k4 : Int) (C : Nat) (n1 s1 s2 : Int) (ok : Bool) (x : List UInt8) (S : AV) (L : List En) (own : Bool) (g : AH) (b1 : List Nat) (h1 : g b1 = some ⟨own, [.int .i64 k1, .int .i64 k2, .int .i64 k3, .int .i64 k4, .int .u64 (C : Int), .int .i64 n1, .int .i64 s1, .int .i64 s2, .bool ok, .str (bs x), S]⟩) (hS : Le g S L) (hl : L.length ≤ 1000) (Q : AV → AH → Prop) (hQ : ∀ g', Up g g' → Q (.int .i64 (if L.all p2 then r2 x L else 2)) g') (tm : List AV) (htm : keep [1, 49, 50, 51] 0 tm = [.und, .ptr b1 0, .und, .und, .und, .und, .und, .und, .und, .und, .und, .und, .und, .und, .und, .und, .und, .und, .und, .und, .und, .und, .und, .und, .und, .und, .und, .und, .und, .und, .und, .und, .und, .und, .und, .und, .und, .und, .und, .und, .und, .und, .und, .und, .und, .und, .und, .und, .und, S, .int .i64 (L.length : Int), .int .i64 0, .und, .und, .und, .und, .und, .und, .und, .und, .und, .und, .und, .und, .und, .und, .und, .und, .und, .und, .und, .und, .und, .und, .und, .und, .und, .und, .und, .und, .und, .und, .und, .und, .und, .und, .und, .und, .und, .und, .und, .und, .und, .und, .und, .und, .und, .und, .und, .und, .und, .und]) :
    W T T1c tm g (Then (fun tm' h' => W T T2c tm' h' (Rets f48 Q)) (Rets f48 Q)) := by
  have hSl := hS.len
  unfold T1c
  refine cSeq ?_
  refine W_block ?_
  refine W_loop (fun m tm g' => ∃ k : Nat, k + m = L.length ∧ Up g g' ∧ L.all p2 = (L.drop k).all p2 ∧ keep [1, 49, 50, 51] 0 tm = [.und, .ptr b1 0, .und, .und, .und, .und, .und, .und, .und, .und, .und, .und, .und, .und, .und, .und, .und, .und, .und, .und, .und, .und, .und, .und, .und, .und, .und, .und, .und, .und, .und, .und, .und, .und, .und, .und, .und, .und, .und, .und, .und, .und, .und, .und, .und, .und, .und, .und, .und, S, .int .i64 (L.length : Int), .int .i64 (k : Int), .und, .und, .und, .und, .und, .und, .und, .und, .und, .und, .und, .und, .und, .und, .und, .und, .und, .und, .und, .und, .und, .und, .und, .und, .und, .und, .und, .und, .und, .und, .und, .und, .und, .und, .und, .und, .und, .und, .und, .und, .und, .und, .und, .und, .und, .und, .und, .und, .und, .und]) L.length ⟨0, by omega, Up.refl _, by rw [List.drop_zero], htm⟩ ?_
  clear htm
  rintro m tm g' ⟨k, hk, hu, hr, htm⟩
  refine cSeq (cMask (cNorm ?_))
  rw [htm]; clear htm
  have h1g := hu _ _ h1
  by_cases hkl : k < L.length
  · have d1 : (k : Int) < (L.length : Int) := by omega
    have d2 : (0 : Int) ≤ (k : Int) := by omega
    have w1 : IntKind.i64.wrap ((k : Int) + 1) = ((k + 1 : Nat) : Int) := by rw [wrap64 (by omega) (by omega)]; rfl
    obtain ⟨⟨y1, y2, y3, y4⟩, hy⟩ : ∃ y, L[k]? = some y := ⟨_, List.getElem?_eq_getElem hkl⟩
    have hdr : L.drop k = (y1, y2, y3, y4) :: L.drop (k + 1) := by rw [List.drop_eq_getElem_cons hkl, (List.getElem?_eq_some_iff.1 hy).2]
    rw [hdr, List.all_cons] at hr
    rcases hS with ⟨rfl, rfl⟩ | ⟨iL, ow, rfl, hL⟩
    · simp at hkl
    have hLg := hu _ _ hL
    obtain ⟨g1, g2⟩ := flat_get eMz hy []
    rw [List.append_nil] at g1 g2
    simp only [eM] at g2
    clear hdr hy
    cases B1 : snd y2 y3 with
    | false =>
      have e : L.all p2 = false := by rw [hr]; unfold p2; rw [B1]; rfl
      rw [e] at hQ
      clear hr e
      repeat' (first
        | (refine wNil ?_) | (refine xPure ?_)
        | (refine xMk ?_; intro id hid; (try simp only [set_none_iff] at hid); have hz := hid; (repeat (replace hz := hz.2)); (try have := nei hLg hz); (try have := nei h1g hz); (try have := Up.none hu hz); refine mkDo ?_)
        | (refine xChk ?_) | (refine xChkF ?_) | (refine xSkip ?_)
        | (refine xCall rfl rfl (sp71 y2 y3 _) ?_; rintro v j3 ⟨rfl, hu3⟩; rw [B1]; have hid3 := hu3 _ _ set_same; have HU : Up g j3 := (fun z b e => hu3 z b (by simp only [set_ne (nei (hu z b e) hid)]; exact hu z b e)); refine nTm ?_)
        | (refine cSeq ?_) | (refine cNorm ?_) | (refine cRet ?_) | (refine cExit ?_) | (refine W_reg rfl ?_) | (refine W_block ?_) | (refine W_ret ?_) | (refine W_skip ?_) | (refine W_exit ?_) | (refine bNorm ?_) | (refine bRet ?_) | (refine bExit ?_) | (refine bExitN rfl ?_)
        | (refine xMask ?_) | (refine xT ?_) | (refine xF ?_) | (refine xRet ?_) | (refine xNorm ?_)
        | (refine wSplit _ rfl (by (first | (simp only [go_sem, *]; (first | done | exact rfl)) | rfl)) ?_ ?_ <;> intro hb <;> (try simp only [beq_false, beq_true, Bool.not_true, Bool.not_false, Bool.not_eq_true', Bool.not_eq_false', decide_eq_false_iff_not, decide_eq_true_eq, bne_iff_ne, beq_iff_eq, Bool.true_eq, Bool.false_eq, Bool.not_not, Bool.and_eq_true, Bool.or_eq_true, Bool.bne_true, Bool.bne_false, bne_eq_false_iff_eq, beq_eq_false_iff_ne, ne_eq] at hb))
        | (refine W_cond _ (by (first | (simp only [go_sem, *]; (first | done | exact rfl)) | rfl)) ?_ ?_ <;> intro hb <;> (try simp only [beq_false, beq_true, Bool.not_true, Bool.not_false, Bool.not_eq_true', Bool.not_eq_false', decide_eq_false_iff_not, decide_eq_true_eq, bne_iff_ne, beq_iff_eq, Bool.true_eq, Bool.false_eq, Bool.not_not, Bool.and_eq_true, Bool.or_eq_true, Bool.bne_true, Bool.bne_false, bne_eq_false_iff_eq, beq_eq_false_iff_ne, ne_eq] at hb)))
      all_goals exact hQ _ HU
    | true =>
      cases B2 : decide (0 ≤ y1 ∧ y1 ≤ 1099511627776) with
      | false =>
        have e : L.all p2 = false := by rw [hr]; unfold p2; rw [B1, B2]; rfl
        rw [e] at hQ
        clear hr e
        repeat' (first
          | (refine wNil ?_) | (refine xPure ?_)
          | (refine xMk ?_; intro id hid; (try simp only [set_none_iff] at hid); have hz := hid; (repeat (replace hz := hz.2)); (try have := nei hLg hz); (try have := nei h1g hz); (try have := Up.none hu hz); refine mkDo ?_)
          | (refine xChk ?_) | (refine xChkF ?_) | (refine xSkip ?_)
          | (refine xCall rfl rfl (sp71 y2 y3 _) ?_; rintro v j3 ⟨rfl, hu3⟩; rw [B1]; have hid3 := hu3 _ _ set_same; have HU : Up g j3 := (fun z b e => hu3 z b (by simp only [set_ne (nei (hu z b e) hid)]; exact hu z b e)); refine nTm ?_)
          | (refine xCall rfl rfl (sp70 y1 0 1099511627776 _) ?_; rintro v j4 ⟨rfl, hx⟩; cases hx; rw [B2]; refine nTm ?_)
          | (refine cSeq ?_) | (refine cNorm ?_) | (refine cRet ?_) | (refine cExit ?_) | (refine W_reg rfl ?_) | (refine W_block ?_) | (refine W_ret ?_) | (refine W_skip ?_) | (refine W_exit ?_) | (refine bNorm ?_) | (refine bRet ?_) | (refine bExit ?_) | (refine bExitN rfl ?_)
          | (refine xMask ?_) | (refine xT ?_) | (refine xF ?_) | (refine xRet ?_) | (refine xNorm ?_)
          | (refine wSplit _ rfl (by (first | (simp only [go_sem, *]; (first | done | exact rfl)) | rfl)) ?_ ?_ <;> intro hb <;> (try simp only [beq_false, beq_true, Bool.not_true, Bool.not_false, Bool.not_eq_true', Bool.not_eq_false', decide_eq_false_iff_not, decide_eq_true_eq, bne_iff_ne, beq_iff_eq, Bool.true_eq, Bool.false_eq, Bool.not_not, Bool.and_eq_true, Bool.or_eq_true, Bool.bne_true, Bool.bne_false, bne_eq_false_iff_eq, beq_eq_false_iff_ne, ne_eq] at hb))
          | (refine W_cond _ (by (first | (simp only [go_sem, *]; (first | done | exact rfl)) | rfl)) ?_ ?_ <;> intro hb <;> (try simp only [beq_false, beq_true, Bool.not_true, Bool.not_false, Bool.not_eq_true', Bool.not_eq_false', decide_eq_false_iff_not, decide_eq_true_eq, bne_iff_ne, beq_iff_eq, Bool.true_eq, Bool.false_eq, Bool.not_not, Bool.and_eq_true, Bool.or_eq_true, Bool.bne_true, Bool.bne_false, bne_eq_false_iff_eq, beq_eq_false_iff_ne, ne_eq] at hb)))
        all_goals exact hQ _ HU
      | true =>
        have hp : (p2 (y1, y2, y3, y4) && (L.drop (k + 1)).all p2) = (L.drop (k + 1)).all p2 := by unfold p2; rw [B1, B2]; rfl
        repeat' (first
          | (refine wNil ?_) | (refine xPure ?_)
          | (refine xMk ?_; intro id hid; (try simp only [set_none_iff] at hid); have hz := hid; (repeat (replace hz := hz.2)); (try have := nei hLg hz); (try have := nei h1g hz); (try have := Up.none hu hz); refine mkDo ?_)
          | (refine xChk ?_) | (refine xChkF ?_) | (refine xSkip ?_)
          | (refine xCall rfl rfl (sp71 y2 y3 _) ?_; rintro v j3 ⟨rfl, hu3⟩; rw [B1]; have hid3 := hu3 _ _ set_same; have HU : Up g j3 := (fun z b e => hu3 z b (by simp only [set_ne (nei (hu z b e) hid)]; exact hu z b e)); refine nTm ?_)
          | (refine xCall rfl rfl (sp70 y1 0 1099511627776 _) ?_; rintro v j4 ⟨rfl, hx⟩; cases hx; rw [B2]; refine nTm ?_)
          | (refine cSeq ?_) | (refine cNorm ?_) | (refine cRet ?_) | (refine cExit ?_) | (refine W_reg rfl ?_) | (refine W_block ?_) | (refine W_ret ?_) | (refine W_skip ?_) | (refine W_exit ?_) | (refine bNorm ?_) | (refine bRet ?_) | (refine bExit ?_) | (refine bExitN rfl ?_)
          | (refine xMask ?_) | (refine xT ?_) | (refine xF ?_) | (refine xRet ?_) | (refine xNorm ?_)
          | (refine wSplit _ rfl (by (first | (simp only [go_sem, *]; (first | done | exact rfl)) | rfl)) ?_ ?_ <;> intro hb <;> (try simp only [beq_false, beq_true, Bool.not_true, Bool.not_false, Bool.not_eq_true', Bool.not_eq_false', decide_eq_false_iff_not, decide_eq_true_eq, bne_iff_ne, beq_iff_eq, Bool.true_eq, Bool.false_eq, Bool.not_not, Bool.and_eq_true, Bool.or_eq_true, Bool.bne_true, Bool.bne_false, bne_eq_false_iff_eq, beq_eq_false_iff_ne, ne_eq] at hb))
          | (refine W_cond _ (by (first | (simp only [go_sem, *]; (first | done | exact rfl)) | rfl)) ?_ ?_ <;> intro hb <;> (try simp only [beq_false, beq_true, Bool.not_true, Bool.not_false, Bool.not_eq_true', Bool.not_eq_false', decide_eq_false_iff_not, decide_eq_true_eq, bne_iff_ne, beq_iff_eq, Bool.true_eq, Bool.false_eq, Bool.not_not, Bool.and_eq_true, Bool.or_eq_true, Bool.bne_true, Bool.bne_false, bne_eq_false_iff_eq, beq_eq_false_iff_ne, ne_eq] at hb)))
        all_goals exact ⟨m - 1, by omega, k + 1, by omega, HU, by rw [hr]; exact hp, by simp only [keep, List.contains_cons, List.contains_nil, Nat.reduceBEq, Bool.or_true, Bool.true_or, Bool.or_false, Bool.false_or, if_true, if_false, Bool.false_eq_true, beq_self_eq_true, Nat.zero_add, Nat.reduceAdd, eq_self]⟩
  · have d1 : ¬ (k : Int) < (L.length : Int) := by omega
    rw [List.drop_of_length_le (by omega), List.all_nil] at hr
    repeat' (first
      | (refine wNil ?_) | (refine xPure ?_)
      | (refine xMk ?_; intro id hid; (try simp only [set_none_iff] at hid); refine mkDo ?_)
      | (refine xChk ?_) | (refine xChkF ?_) | (refine xSkip ?_)
      | (exact tail48b k1 k2 k3 k4 C n1 s1 s2 ok x S L own g' b1 h1g (hS.up hu) hl Q (fun g'' hu' => by have := hQ g'' (hu.trans hu'); rw [hr] at this; exact this))
      | (refine cSeq ?_) | (refine cNorm ?_) | (refine cRet ?_) | (refine cExit ?_) | (refine W_reg rfl ?_) | (refine W_block ?_) | (refine W_ret ?_) | (refine W_skip ?_) | (refine W_exit ?_) | (refine bNorm ?_) | (refine bRet ?_) | (refine bExit ?_) | (refine bExitN rfl ?_)
      | (refine xMask ?_) | (refine xT ?_) | (refine xF ?_) | (refine xRet ?_) | (refine xNorm ?_)
      | (refine wSplit _ rfl (by (first | (simp only [go_sem, *]; (first | done | exact rfl)) | rfl)) ?_ ?_ <;> intro hb <;> (try simp only [beq_false, beq_true, Bool.not_true, Bool.not_false, Bool.not_eq_true', Bool.not_eq_false', decide_eq_false_iff_not, decide_eq_true_eq, bne_iff_ne, beq_iff_eq, Bool.true_eq, Bool.false_eq, Bool.not_not, Bool.and_eq_true, Bool.or_eq_true, Bool.bne_true, Bool.bne_false, bne_eq_false_iff_eq, beq_eq_false_iff_ne, ne_eq] at hb))
      | (refine W_cond _ (by (first | (simp only [go_sem, *]; (first | done | exact rfl)) | rfl)) ?_ ?_ <;> intro hb <;> (try simp only [beq_false, beq_true, Bool.not_true, Bool.not_false, Bool.not_eq_true', Bool.not_eq_false', decide_eq_false_iff_not, decide_eq_true_eq, bne_iff_ne, beq_iff_eq, Bool.true_eq, Bool.false_eq, Bool.not_not, Bool.and_eq_true, Bool.or_eq_true, Bool.bne_true, Bool.bne_false, bne_eq_false_iff_eq, beq_eq_false_iff_ne, ne_eq] at hb)))
end Go.Proofs.YtgekngfnhhdamaaI
set_option linter.unusedVariables false
set_option linter.unusedSimpArgs false
set_option maxRecDepth 100000
set_option maxHeartbeats 4000000
namespace Go.Proofs.YtgekngfnhhdamaaI
open Go Go.Proofs.YtgekngfnhhdamaaM
attribute [local go_sem] aop ev fg_slc fg_slk fg_ptr fg_bool fg_int fg_str fg_iface fg_func fg_agg fg_tup fg_nils fg_nilp fg_nilI fg_nilF fg_und aboundsK alen_nils alen_slc alen_slk aslice_nils aslice_slc aslice_slk awanted abin aun aint aeqn aeqc aeqs apart abounds abnd amaxi amaxiGo cells_agg cells_slc cells_slk cells_ptr cells_bool cells_int cells_str cells_iface cells_func cells_tup cells_nils cells_nilp cells_nilI cells_nilF cells_und sc_slc sc_slk sc_ptr sc_bool sc_int sc_str sc_iface sc_func sc_nils sc_nilp sc_nilI sc_nilF gd_zero gd_succ List.all_cons List.all_nil Bool.and_self Bool.and_true Bool.true_and List.length_cons List.length_nil Option.map_some Option.some.injEq cell_same cell_ne cell_ne' cellsAt_same cellsAt_ne cellsAt_ne' put_same put_of set_same set_ne set_ne' List.getElem?_cons_zero List.getElem?_cons_succ if_true if_false and_self and_true true_and ne_eq not_true_eq_false not_false_eq_true decide_true decide_false Bool.false_eq_true Bool.true_eq_false beq_self_eq_true bne_self_eq_false beq_true beq_false Bool.not_true Bool.not_false List.map_cons List.map_nil putL List.set_cons_zero List.set_cons_succ afill Nat.zero_le Nat.le_refl Nat.zero_add Nat.add_zero List.drop_zero List.drop_succ_cons List.take_zero List.take_succ_cons Bool.not_eq_true Bool.not_eq_false decide_eq_true_eq decide_eq_false_iff_not Int.toNat_zero Nat.sub_zero Int.toNat_natCast Bool.bne_true Bool.bne_false AH.cell AH.cellsAt AH.put Nat.mul_one Nat.one_mul Int.natCast_nonneg List.length_set bs_append bs_size bs_toList bs_extract bs_get List.cons_append List.nil_append List.append_nil Nat.sub_zero bne_self_eq_false beq_self_eq_true azeros Int.le_refl
/-- The document's Check. -/
def chk (k1 k2 k3 k4 : Int) (C : Nat) (n1 s1 s2 : Int) (x : List UInt8) (L : List En) : Int :=
  if decide (1 ≤ k1 ∧ k1 ≤ 13) then (if decide (0 ≤ k2 ∧ k2 ≤ 11) then (if decide (0 ≤ k3 ∧ k3 ≤ 11) then (if decide (0 ≤ k4 ∧ k4 ≤ 3) then (if snd C n1 then (if decide (0 ≤ s1 ∧ s1 ≤ 1099511627776) then (if decide (0 ≤ s2 ∧ s2 ≤ 1099511627776) then r1 x L else 2) else 2) else 2) else 2) else 2) else 2) else 1
theorem sp48 (k1 k2 k3 k4 : Int) (C : Nat) (n1 s1 s2 : Int) (ok : Bool) (x : List UInt8) (S : AV) (L : List En) (h : AH) (hS : Le h S L) (hl : L.length ≤ 1000) :
    Sp T 48 [.agg [.int .i64 k1, .int .i64 k2, .int .i64 k3, .int .i64 k4, .int .u64 (C : Int), .int .i64 n1, .int .i64 s1, .int .i64 s2, .bool ok, .str (bs x), S]] h (fun v h' => v = .int .i64 (chk k1 k2 k3 k4 C n1 s1 s2 x L) ∧ Up h h') := by
  have hSl := hS.len
  have hSc : S.scalar = true := by rcases hS with ⟨rfl, rfl⟩ | ⟨i, _, rfl, _⟩ <;> rfl
  cases B0 : decide (1 ≤ k1 ∧ k1 ≤ 13) with
  | false =>
    have e : chk k1 k2 k3 k4 C n1 s1 s2 x L = 1 := by unfold chk; rw [B0]; rfl
    rw [e]
    refine Sp_of (fn := f48) rfl (show W T b48 [.agg [.int .i64 k1, .int .i64 k2, .int .i64 k3, .int .i64 k4, .int .u64 (C : Int), .int .i64 n1, .int .i64 s1, .int .i64 s2, .bool ok, .str (bs x), S], .tup [], .tup [], .tup [], .tup [], .tup [], .tup [], .tup [], .tup [], .tup [], .tup [], .tup [], .tup [], .tup [], .tup [], .tup [], .tup [], .tup [], .tup [], .tup [], .tup [], .tup [], .tup [], .tup [], .tup [], .tup [], .tup [], .tup [], .tup [], .tup [], .tup [], .tup [], .tup [], .tup [], .tup [], .tup [], .tup [], .tup [], .tup [], .tup [], .tup [], .tup [], .tup [], .tup [], .tup [], .tup [], .tup [], .tup [], .tup [], .tup [], .tup [], .tup [], .tup [], .tup [], .tup [], .tup [], .tup [], .tup [], .tup [], .tup [], .tup [], .tup [], .tup [], .tup [], .tup [], .tup [], .tup [], .tup [], .tup [], .tup [], .tup [], .tup [], .tup [], .tup [], .tup [], .tup [], .tup [], .tup [], .tup [], .tup [], .tup [], .tup [], .tup [], .tup [], .tup [], .tup [], .tup [], .tup [], .tup [], .tup [], .tup [], .tup [], .tup [], .tup [], .tup [], .tup [], .tup [], .tup [], .tup [], .tup [], .tup [], .tup []] _ _ from ?_)
    unfold b48
    repeat' (first
      | (refine wNil ?_) | (refine xPure ?_)
      | (refine xMk ?_; intro id hid; (try simp only [set_none_iff] at hid); refine mkDo ?_)
      | (refine xChk ?_) | (refine xChkF ?_) | (refine xSkip ?_)
      | (refine xCall rfl rfl (sp70 k1 1 13 _) ?_; rintro v j2 ⟨rfl, hx⟩; cases hx; rw [B0]; refine nTm ?_)
      | (refine xCall rfl rfl (sp70 k2 0 11 _) ?_; rintro v j2 ⟨rfl, hx⟩; cases hx; rw [B1]; refine nTm ?_)
      | (refine xCall rfl rfl (sp70 k3 0 11 _) ?_; rintro v j2 ⟨rfl, hx⟩; cases hx; rw [B2]; refine nTm ?_)
      | (refine xCall rfl rfl (sp70 k4 0 3 _) ?_; rintro v j2 ⟨rfl, hx⟩; cases hx; rw [B3]; refine nTm ?_)
      | (refine xCall rfl rfl (sp71 C n1 _) ?_; rintro v j3 ⟨rfl, hu3⟩; rw [B4]; have hb3 := hu3 _ _ set_same; have HU : Up h j3 := (fun z b e => hu3 z b (by rw [set_ne (nei e hid)]; exact e)); refine nTm ?_)
      | (refine xCall rfl rfl (sp70 s1 0 1099511627776 _) ?_; rintro v j2 ⟨rfl, hx⟩; cases hx; rw [B5]; refine nTm ?_)
      | (refine xCall rfl rfl (sp70 s2 0 1099511627776 _) ?_; rintro v j2 ⟨rfl, hx⟩; cases hx; rw [B6]; refine nTm ?_)
      | (refine cSeq ?_) | (refine cNorm ?_) | (refine cRet ?_) | (refine cExit ?_) | (refine W_reg rfl ?_) | (refine W_block ?_) | (refine W_ret ?_) | (refine W_skip ?_) | (refine W_exit ?_) | (refine bNorm ?_) | (refine bRet ?_) | (refine bExit ?_) | (refine bExitN rfl ?_)
      | (refine xMask ?_) | (refine xT ?_) | (refine xF ?_) | (refine xRet ?_) | (refine xNorm ?_)
      | (refine wSplit _ rfl (by (first | (simp only [go_sem, *]; (first | done | exact rfl)) | rfl)) ?_ ?_ <;> intro hb <;> (try simp only [beq_false, beq_true, Bool.not_true, Bool.not_false, Bool.not_eq_true', Bool.not_eq_false', decide_eq_false_iff_not, decide_eq_true_eq, bne_iff_ne, beq_iff_eq, Bool.true_eq, Bool.false_eq, Bool.not_not, Bool.and_eq_true, Bool.or_eq_true, Bool.bne_true, Bool.bne_false, bne_eq_false_iff_eq, beq_eq_false_iff_ne, ne_eq] at hb))
      | (refine W_cond _ (by (first | (simp only [go_sem, *]; (first | done | exact rfl)) | rfl)) ?_ ?_ <;> intro hb <;> (try simp only [beq_false, beq_true, Bool.not_true, Bool.not_false, Bool.not_eq_true', Bool.not_eq_false', decide_eq_false_iff_not, decide_eq_true_eq, bne_iff_ne, beq_iff_eq, Bool.true_eq, Bool.false_eq, Bool.not_not, Bool.and_eq_true, Bool.or_eq_true, Bool.bne_true, Bool.bne_false, bne_eq_false_iff_eq, beq_eq_false_iff_ne, ne_eq] at hb)))
    all_goals exact ⟨rfl, Up.new (Up.refl h) (by assumption)⟩
  | true =>
    cases B1 : decide (0 ≤ k2 ∧ k2 ≤ 11) with
    | false =>
      have e : chk k1 k2 k3 k4 C n1 s1 s2 x L = 2 := by unfold chk; rw [B0, B1]; rfl
      rw [e]
      refine Sp_of (fn := f48) rfl (show W T b48 [.agg [.int .i64 k1, .int .i64 k2, .int .i64 k3, .int .i64 k4, .int .u64 (C : Int), .int .i64 n1, .int .i64 s1, .int .i64 s2, .bool ok, .str (bs x), S], .tup [], .tup [], .tup [], .tup [], .tup [], .tup [], .tup [], .tup [], .tup [], .tup [], .tup [], .tup [], .tup [], .tup [], .tup [], .tup [], .tup [], .tup [], .tup [], .tup [], .tup [], .tup [], .tup [], .tup [], .tup [], .tup [], .tup [], .tup [], .tup [], .tup [], .tup [], .tup [], .tup [], .tup [], .tup [], .tup [], .tup [], .tup [], .tup [], .tup [], .tup [], .tup [], .tup [], .tup [], .tup [], .tup [], .tup [], .tup [], .tup [], .tup [], .tup [], .tup [], .tup [], .tup [], .tup [], .tup [], .tup [], .tup [], .tup [], .tup [], .tup [], .tup [], .tup [], .tup [], .tup [], .tup [], .tup [], .tup [], .tup [], .tup [], .tup [], .tup [], .tup [], .tup [], .tup [], .tup [], .tup [], .tup [], .tup [], .tup [], .tup [], .tup [], .tup [], .tup [], .tup [], .tup [], .tup [], .tup [], .tup [], .tup [], .tup [], .tup [], .tup [], .tup [], .tup [], .tup [], .tup [], .tup [], .tup [], .tup [], .tup []] _ _ from ?_)
      unfold b48
      repeat' (first
        | (refine wNil ?_) | (refine xPure ?_)
        | (refine xMk ?_; intro id hid; (try simp only [set_none_iff] at hid); refine mkDo ?_)
        | (refine xChk ?_) | (refine xChkF ?_) | (refine xSkip ?_)
        | (refine xCall rfl rfl (sp70 k1 1 13 _) ?_; rintro v j2 ⟨rfl, hx⟩; cases hx; rw [B0]; refine nTm ?_)
        | (refine xCall rfl rfl (sp70 k2 0 11 _) ?_; rintro v j2 ⟨rfl, hx⟩; cases hx; rw [B1]; refine nTm ?_)
        | (refine xCall rfl rfl (sp70 k3 0 11 _) ?_; rintro v j2 ⟨rfl, hx⟩; cases hx; rw [B2]; refine nTm ?_)
        | (refine xCall rfl rfl (sp70 k4 0 3 _) ?_; rintro v j2 ⟨rfl, hx⟩; cases hx; rw [B3]; refine nTm ?_)
        | (refine xCall rfl rfl (sp71 C n1 _) ?_; rintro v j3 ⟨rfl, hu3⟩; rw [B4]; have hb3 := hu3 _ _ set_same; have HU : Up h j3 := (fun z b e => hu3 z b (by rw [set_ne (nei e hid)]; exact e)); refine nTm ?_)
        | (refine xCall rfl rfl (sp70 s1 0 1099511627776 _) ?_; rintro v j2 ⟨rfl, hx⟩; cases hx; rw [B5]; refine nTm ?_)
        | (refine xCall rfl rfl (sp70 s2 0 1099511627776 _) ?_; rintro v j2 ⟨rfl, hx⟩; cases hx; rw [B6]; refine nTm ?_)
        | (refine cSeq ?_) | (refine cNorm ?_) | (refine cRet ?_) | (refine cExit ?_) | (refine W_reg rfl ?_) | (refine W_block ?_) | (refine W_ret ?_) | (refine W_skip ?_) | (refine W_exit ?_) | (refine bNorm ?_) | (refine bRet ?_) | (refine bExit ?_) | (refine bExitN rfl ?_)
        | (refine xMask ?_) | (refine xT ?_) | (refine xF ?_) | (refine xRet ?_) | (refine xNorm ?_)
        | (refine wSplit _ rfl (by (first | (simp only [go_sem, *]; (first | done | exact rfl)) | rfl)) ?_ ?_ <;> intro hb <;> (try simp only [beq_false, beq_true, Bool.not_true, Bool.not_false, Bool.not_eq_true', Bool.not_eq_false', decide_eq_false_iff_not, decide_eq_true_eq, bne_iff_ne, beq_iff_eq, Bool.true_eq, Bool.false_eq, Bool.not_not, Bool.and_eq_true, Bool.or_eq_true, Bool.bne_true, Bool.bne_false, bne_eq_false_iff_eq, beq_eq_false_iff_ne, ne_eq] at hb))
        | (refine W_cond _ (by (first | (simp only [go_sem, *]; (first | done | exact rfl)) | rfl)) ?_ ?_ <;> intro hb <;> (try simp only [beq_false, beq_true, Bool.not_true, Bool.not_false, Bool.not_eq_true', Bool.not_eq_false', decide_eq_false_iff_not, decide_eq_true_eq, bne_iff_ne, beq_iff_eq, Bool.true_eq, Bool.false_eq, Bool.not_not, Bool.and_eq_true, Bool.or_eq_true, Bool.bne_true, Bool.bne_false, bne_eq_false_iff_eq, beq_eq_false_iff_ne, ne_eq] at hb)))
      all_goals exact ⟨rfl, Up.new (Up.refl h) (by assumption)⟩
    | true =>
      cases B2 : decide (0 ≤ k3 ∧ k3 ≤ 11) with
      | false =>
        have e : chk k1 k2 k3 k4 C n1 s1 s2 x L = 2 := by unfold chk; rw [B0, B1, B2]; rfl
        rw [e]
        refine Sp_of (fn := f48) rfl (show W T b48 [.agg [.int .i64 k1, .int .i64 k2, .int .i64 k3, .int .i64 k4, .int .u64 (C : Int), .int .i64 n1, .int .i64 s1, .int .i64 s2, .bool ok, .str (bs x), S], .tup [], .tup [], .tup [], .tup [], .tup [], .tup [], .tup [], .tup [], .tup [], .tup [], .tup [], .tup [], .tup [], .tup [], .tup [], .tup [], .tup [], .tup [], .tup [], .tup [], .tup [], .tup [], .tup [], .tup [], .tup [], .tup [], .tup [], .tup [], .tup [], .tup [], .tup [], .tup [], .tup [], .tup [], .tup [], .tup [], .tup [], .tup [], .tup [], .tup [], .tup [], .tup [], .tup [], .tup [], .tup [], .tup [], .tup [], .tup [], .tup [], .tup [], .tup [], .tup [], .tup [], .tup [], .tup [], .tup [], .tup [], .tup [], .tup [], .tup [], .tup [], .tup [], .tup [], .tup [], .tup [], .tup [], .tup [], .tup [], .tup [], .tup [], .tup [], .tup [], .tup [], .tup [], .tup [], .tup [], .tup [], .tup [], .tup [], .tup [], .tup [], .tup [], .tup [], .tup [], .tup [], .tup [], .tup [], .tup [], .tup [], .tup [], .tup [], .tup [], .tup [], .tup [], .tup [], .tup [], .tup [], .tup [], .tup [], .tup [], .tup []] _ _ from ?_)
        unfold b48
        repeat' (first
          | (refine wNil ?_) | (refine xPure ?_)
          | (refine xMk ?_; intro id hid; (try simp only [set_none_iff] at hid); refine mkDo ?_)
          | (refine xChk ?_) | (refine xChkF ?_) | (refine xSkip ?_)
          | (refine xCall rfl rfl (sp70 k1 1 13 _) ?_; rintro v j2 ⟨rfl, hx⟩; cases hx; rw [B0]; refine nTm ?_)
          | (refine xCall rfl rfl (sp70 k2 0 11 _) ?_; rintro v j2 ⟨rfl, hx⟩; cases hx; rw [B1]; refine nTm ?_)
          | (refine xCall rfl rfl (sp70 k3 0 11 _) ?_; rintro v j2 ⟨rfl, hx⟩; cases hx; rw [B2]; refine nTm ?_)
          | (refine xCall rfl rfl (sp70 k4 0 3 _) ?_; rintro v j2 ⟨rfl, hx⟩; cases hx; rw [B3]; refine nTm ?_)
          | (refine xCall rfl rfl (sp71 C n1 _) ?_; rintro v j3 ⟨rfl, hu3⟩; rw [B4]; have hb3 := hu3 _ _ set_same; have HU : Up h j3 := (fun z b e => hu3 z b (by rw [set_ne (nei e hid)]; exact e)); refine nTm ?_)
          | (refine xCall rfl rfl (sp70 s1 0 1099511627776 _) ?_; rintro v j2 ⟨rfl, hx⟩; cases hx; rw [B5]; refine nTm ?_)
          | (refine xCall rfl rfl (sp70 s2 0 1099511627776 _) ?_; rintro v j2 ⟨rfl, hx⟩; cases hx; rw [B6]; refine nTm ?_)
          | (refine cSeq ?_) | (refine cNorm ?_) | (refine cRet ?_) | (refine cExit ?_) | (refine W_reg rfl ?_) | (refine W_block ?_) | (refine W_ret ?_) | (refine W_skip ?_) | (refine W_exit ?_) | (refine bNorm ?_) | (refine bRet ?_) | (refine bExit ?_) | (refine bExitN rfl ?_)
          | (refine xMask ?_) | (refine xT ?_) | (refine xF ?_) | (refine xRet ?_) | (refine xNorm ?_)
          | (refine wSplit _ rfl (by (first | (simp only [go_sem, *]; (first | done | exact rfl)) | rfl)) ?_ ?_ <;> intro hb <;> (try simp only [beq_false, beq_true, Bool.not_true, Bool.not_false, Bool.not_eq_true', Bool.not_eq_false', decide_eq_false_iff_not, decide_eq_true_eq, bne_iff_ne, beq_iff_eq, Bool.true_eq, Bool.false_eq, Bool.not_not, Bool.and_eq_true, Bool.or_eq_true, Bool.bne_true, Bool.bne_false, bne_eq_false_iff_eq, beq_eq_false_iff_ne, ne_eq] at hb))
          | (refine W_cond _ (by (first | (simp only [go_sem, *]; (first | done | exact rfl)) | rfl)) ?_ ?_ <;> intro hb <;> (try simp only [beq_false, beq_true, Bool.not_true, Bool.not_false, Bool.not_eq_true', Bool.not_eq_false', decide_eq_false_iff_not, decide_eq_true_eq, bne_iff_ne, beq_iff_eq, Bool.true_eq, Bool.false_eq, Bool.not_not, Bool.and_eq_true, Bool.or_eq_true, Bool.bne_true, Bool.bne_false, bne_eq_false_iff_eq, beq_eq_false_iff_ne, ne_eq] at hb)))
        all_goals exact ⟨rfl, Up.new (Up.refl h) (by assumption)⟩
      | true =>
        cases B3 : decide (0 ≤ k4 ∧ k4 ≤ 3) with
        | false =>
          have e : chk k1 k2 k3 k4 C n1 s1 s2 x L = 2 := by unfold chk; rw [B0, B1, B2, B3]; rfl
          rw [e]
          refine Sp_of (fn := f48) rfl (show W T b48 [.agg [.int .i64 k1, .int .i64 k2, .int .i64 k3, .int .i64 k4, .int .u64 (C : Int), .int .i64 n1, .int .i64 s1, .int .i64 s2, .bool ok, .str (bs x), S], .tup [], .tup [], .tup [], .tup [], .tup [], .tup [], .tup [], .tup [], .tup [], .tup [], .tup [], .tup [], .tup [], .tup [], .tup [], .tup [], .tup [], .tup [], .tup [], .tup [], .tup [], .tup [], .tup [], .tup [], .tup [], .tup [], .tup [], .tup [], .tup [], .tup [], .tup [], .tup [], .tup [], .tup [], .tup [], .tup [], .tup [], .tup [], .tup [], .tup [], .tup [], .tup [], .tup [], .tup [], .tup [], .tup [], .tup [], .tup [], .tup [], .tup [], .tup [], .tup [], .tup [], .tup [], .tup [], .tup [], .tup [], .tup [], .tup [], .tup [], .tup [], .tup [], .tup [], .tup [], .tup [], .tup [], .tup [], .tup [], .tup [], .tup [], .tup [], .tup [], .tup [], .tup [], .tup [], .tup [], .tup [], .tup [], .tup [], .tup [], .tup [], .tup [], .tup [], .tup [], .tup [], .tup [], .tup [], .tup [], .tup [], .tup [], .tup [], .tup [], .tup [], .tup [], .tup [], .tup [], .tup [], .tup [], .tup [], .tup [], .tup []] _ _ from ?_)
          unfold b48
          repeat' (first
            | (refine wNil ?_) | (refine xPure ?_)
            | (refine xMk ?_; intro id hid; (try simp only [set_none_iff] at hid); refine mkDo ?_)
            | (refine xChk ?_) | (refine xChkF ?_) | (refine xSkip ?_)
            | (refine xCall rfl rfl (sp70 k1 1 13 _) ?_; rintro v j2 ⟨rfl, hx⟩; cases hx; rw [B0]; refine nTm ?_)
            | (refine xCall rfl rfl (sp70 k2 0 11 _) ?_; rintro v j2 ⟨rfl, hx⟩; cases hx; rw [B1]; refine nTm ?_)
            | (refine xCall rfl rfl (sp70 k3 0 11 _) ?_; rintro v j2 ⟨rfl, hx⟩; cases hx; rw [B2]; refine nTm ?_)
            | (refine xCall rfl rfl (sp70 k4 0 3 _) ?_; rintro v j2 ⟨rfl, hx⟩; cases hx; rw [B3]; refine nTm ?_)
            | (refine xCall rfl rfl (sp71 C n1 _) ?_; rintro v j3 ⟨rfl, hu3⟩; rw [B4]; have hb3 := hu3 _ _ set_same; have HU : Up h j3 := (fun z b e => hu3 z b (by rw [set_ne (nei e hid)]; exact e)); refine nTm ?_)
            | (refine xCall rfl rfl (sp70 s1 0 1099511627776 _) ?_; rintro v j2 ⟨rfl, hx⟩; cases hx; rw [B5]; refine nTm ?_)
            | (refine xCall rfl rfl (sp70 s2 0 1099511627776 _) ?_; rintro v j2 ⟨rfl, hx⟩; cases hx; rw [B6]; refine nTm ?_)
            | (refine cSeq ?_) | (refine cNorm ?_) | (refine cRet ?_) | (refine cExit ?_) | (refine W_reg rfl ?_) | (refine W_block ?_) | (refine W_ret ?_) | (refine W_skip ?_) | (refine W_exit ?_) | (refine bNorm ?_) | (refine bRet ?_) | (refine bExit ?_) | (refine bExitN rfl ?_)
            | (refine xMask ?_) | (refine xT ?_) | (refine xF ?_) | (refine xRet ?_) | (refine xNorm ?_)
            | (refine wSplit _ rfl (by (first | (simp only [go_sem, *]; (first | done | exact rfl)) | rfl)) ?_ ?_ <;> intro hb <;> (try simp only [beq_false, beq_true, Bool.not_true, Bool.not_false, Bool.not_eq_true', Bool.not_eq_false', decide_eq_false_iff_not, decide_eq_true_eq, bne_iff_ne, beq_iff_eq, Bool.true_eq, Bool.false_eq, Bool.not_not, Bool.and_eq_true, Bool.or_eq_true, Bool.bne_true, Bool.bne_false, bne_eq_false_iff_eq, beq_eq_false_iff_ne, ne_eq] at hb))
            | (refine W_cond _ (by (first | (simp only [go_sem, *]; (first | done | exact rfl)) | rfl)) ?_ ?_ <;> intro hb <;> (try simp only [beq_false, beq_true, Bool.not_true, Bool.not_false, Bool.not_eq_true', Bool.not_eq_false', decide_eq_false_iff_not, decide_eq_true_eq, bne_iff_ne, beq_iff_eq, Bool.true_eq, Bool.false_eq, Bool.not_not, Bool.and_eq_true, Bool.or_eq_true, Bool.bne_true, Bool.bne_false, bne_eq_false_iff_eq, beq_eq_false_iff_ne, ne_eq] at hb)))
          all_goals exact ⟨rfl, Up.new (Up.refl h) (by assumption)⟩
        | true =>
          cases B4 : snd C n1 with
          | false =>
            have e : chk k1 k2 k3 k4 C n1 s1 s2 x L = 2 := by unfold chk; rw [B0, B1, B2, B3, B4]; rfl
            rw [e]
            refine Sp_of (fn := f48) rfl (show W T b48 [.agg [.int .i64 k1, .int .i64 k2, .int .i64 k3, .int .i64 k4, .int .u64 (C : Int), .int .i64 n1, .int .i64 s1, .int .i64 s2, .bool ok, .str (bs x), S], .tup [], .tup [], .tup [], .tup [], .tup [], .tup [], .tup [], .tup [], .tup [], .tup [], .tup [], .tup [], .tup [], .tup [], .tup [], .tup [], .tup [], .tup [], .tup [], .tup [], .tup [], .tup [], .tup [], .tup [], .tup [], .tup [], .tup [], .tup [], .tup [], .tup [], .tup [], .tup [], .tup [], .tup [], .tup [], .tup [], .tup [], .tup [], .tup [], .tup [], .tup [], .tup [], .tup [], .tup [], .tup [], .tup [], .tup [], .tup [], .tup [], .tup [], .tup [], .tup [], .tup [], .tup [], .tup [], .tup [], .tup [], .tup [], .tup [], .tup [], .tup [], .tup [], .tup [], .tup [], .tup [], .tup [], .tup [], .tup [], .tup [], .tup [], .tup [], .tup [], .tup [], .tup [], .tup [], .tup [], .tup [], .tup [], .tup [], .tup [], .tup [], .tup [], .tup [], .tup [], .tup [], .tup [], .tup [], .tup [], .tup [], .tup [], .tup [], .tup [], .tup [], .tup [], .tup [], .tup [], .tup [], .tup [], .tup [], .tup [], .tup []] _ _ from ?_)
            unfold b48
            repeat' (first
              | (refine wNil ?_) | (refine xPure ?_)
              | (refine xMk ?_; intro id hid; (try simp only [set_none_iff] at hid); refine mkDo ?_)
              | (refine xChk ?_) | (refine xChkF ?_) | (refine xSkip ?_)
              | (refine xCall rfl rfl (sp70 k1 1 13 _) ?_; rintro v j2 ⟨rfl, hx⟩; cases hx; rw [B0]; refine nTm ?_)
              | (refine xCall rfl rfl (sp70 k2 0 11 _) ?_; rintro v j2 ⟨rfl, hx⟩; cases hx; rw [B1]; refine nTm ?_)
              | (refine xCall rfl rfl (sp70 k3 0 11 _) ?_; rintro v j2 ⟨rfl, hx⟩; cases hx; rw [B2]; refine nTm ?_)
              | (refine xCall rfl rfl (sp70 k4 0 3 _) ?_; rintro v j2 ⟨rfl, hx⟩; cases hx; rw [B3]; refine nTm ?_)
              | (refine xCall rfl rfl (sp71 C n1 _) ?_; rintro v j3 ⟨rfl, hu3⟩; rw [B4]; have hb3 := hu3 _ _ set_same; have HU : Up h j3 := (fun z b e => hu3 z b (by rw [set_ne (nei e hid)]; exact e)); refine nTm ?_)
              | (refine xCall rfl rfl (sp70 s1 0 1099511627776 _) ?_; rintro v j2 ⟨rfl, hx⟩; cases hx; rw [B5]; refine nTm ?_)
              | (refine xCall rfl rfl (sp70 s2 0 1099511627776 _) ?_; rintro v j2 ⟨rfl, hx⟩; cases hx; rw [B6]; refine nTm ?_)
              | (refine cSeq ?_) | (refine cNorm ?_) | (refine cRet ?_) | (refine cExit ?_) | (refine W_reg rfl ?_) | (refine W_block ?_) | (refine W_ret ?_) | (refine W_skip ?_) | (refine W_exit ?_) | (refine bNorm ?_) | (refine bRet ?_) | (refine bExit ?_) | (refine bExitN rfl ?_)
              | (refine xMask ?_) | (refine xT ?_) | (refine xF ?_) | (refine xRet ?_) | (refine xNorm ?_)
              | (refine wSplit _ rfl (by (first | (simp only [go_sem, *]; (first | done | exact rfl)) | rfl)) ?_ ?_ <;> intro hb <;> (try simp only [beq_false, beq_true, Bool.not_true, Bool.not_false, Bool.not_eq_true', Bool.not_eq_false', decide_eq_false_iff_not, decide_eq_true_eq, bne_iff_ne, beq_iff_eq, Bool.true_eq, Bool.false_eq, Bool.not_not, Bool.and_eq_true, Bool.or_eq_true, Bool.bne_true, Bool.bne_false, bne_eq_false_iff_eq, beq_eq_false_iff_ne, ne_eq] at hb))
              | (refine W_cond _ (by (first | (simp only [go_sem, *]; (first | done | exact rfl)) | rfl)) ?_ ?_ <;> intro hb <;> (try simp only [beq_false, beq_true, Bool.not_true, Bool.not_false, Bool.not_eq_true', Bool.not_eq_false', decide_eq_false_iff_not, decide_eq_true_eq, bne_iff_ne, beq_iff_eq, Bool.true_eq, Bool.false_eq, Bool.not_not, Bool.and_eq_true, Bool.or_eq_true, Bool.bne_true, Bool.bne_false, bne_eq_false_iff_eq, beq_eq_false_iff_ne, ne_eq] at hb)))
            all_goals exact ⟨rfl, HU⟩
          | true =>
            cases B5 : decide (0 ≤ s1 ∧ s1 ≤ 1099511627776) with
            | false =>
              have e : chk k1 k2 k3 k4 C n1 s1 s2 x L = 2 := by unfold chk; rw [B0, B1, B2, B3, B4, B5]; rfl
              rw [e]
              refine Sp_of (fn := f48) rfl (show W T b48 [.agg [.int .i64 k1, .int .i64 k2, .int .i64 k3, .int .i64 k4, .int .u64 (C : Int), .int .i64 n1, .int .i64 s1, .int .i64 s2, .bool ok, .str (bs x), S], .tup [], .tup [], .tup [], .tup [], .tup [], .tup [], .tup [], .tup [], .tup [], .tup [], .tup [], .tup [], .tup [], .tup [], .tup [], .tup [], .tup [], .tup [], .tup [], .tup [], .tup [], .tup [], .tup [], .tup [], .tup [], .tup [], .tup [], .tup [], .tup [], .tup [], .tup [], .tup [], .tup [], .tup [], .tup [], .tup [], .tup [], .tup [], .tup [], .tup [], .tup [], .tup [], .tup [], .tup [], .tup [], .tup [], .tup [], .tup [], .tup [], .tup [], .tup [], .tup [], .tup [], .tup [], .tup [], .tup [], .tup [], .tup [], .tup [], .tup [], .tup [], .tup [], .tup [], .tup [], .tup [], .tup [], .tup [], .tup [], .tup [], .tup [], .tup [], .tup [], .tup [], .tup [], .tup [], .tup [], .tup [], .tup [], .tup [], .tup [], .tup [], .tup [], .tup [], .tup [], .tup [], .tup [], .tup [], .tup [], .tup [], .tup [], .tup [], .tup [], .tup [], .tup [], .tup [], .tup [], .tup [], .tup [], .tup [], .tup [], .tup []] _ _ from ?_)
              unfold b48
              repeat' (first
                | (refine wNil ?_) | (refine xPure ?_)
                | (refine xMk ?_; intro id hid; (try simp only [set_none_iff] at hid); refine mkDo ?_)
                | (refine xChk ?_) | (refine xChkF ?_) | (refine xSkip ?_)
                | (refine xCall rfl rfl (sp70 k1 1 13 _) ?_; rintro v j2 ⟨rfl, hx⟩; cases hx; rw [B0]; refine nTm ?_)
                | (refine xCall rfl rfl (sp70 k2 0 11 _) ?_; rintro v j2 ⟨rfl, hx⟩; cases hx; rw [B1]; refine nTm ?_)
                | (refine xCall rfl rfl (sp70 k3 0 11 _) ?_; rintro v j2 ⟨rfl, hx⟩; cases hx; rw [B2]; refine nTm ?_)
                | (refine xCall rfl rfl (sp70 k4 0 3 _) ?_; rintro v j2 ⟨rfl, hx⟩; cases hx; rw [B3]; refine nTm ?_)
                | (refine xCall rfl rfl (sp71 C n1 _) ?_; rintro v j3 ⟨rfl, hu3⟩; rw [B4]; have hb3 := hu3 _ _ set_same; have HU : Up h j3 := (fun z b e => hu3 z b (by rw [set_ne (nei e hid)]; exact e)); refine nTm ?_)
                | (refine xCall rfl rfl (sp70 s1 0 1099511627776 _) ?_; rintro v j2 ⟨rfl, hx⟩; cases hx; rw [B5]; refine nTm ?_)
                | (refine xCall rfl rfl (sp70 s2 0 1099511627776 _) ?_; rintro v j2 ⟨rfl, hx⟩; cases hx; rw [B6]; refine nTm ?_)
                | (refine cSeq ?_) | (refine cNorm ?_) | (refine cRet ?_) | (refine cExit ?_) | (refine W_reg rfl ?_) | (refine W_block ?_) | (refine W_ret ?_) | (refine W_skip ?_) | (refine W_exit ?_) | (refine bNorm ?_) | (refine bRet ?_) | (refine bExit ?_) | (refine bExitN rfl ?_)
                | (refine xMask ?_) | (refine xT ?_) | (refine xF ?_) | (refine xRet ?_) | (refine xNorm ?_)
                | (refine wSplit _ rfl (by (first | (simp only [go_sem, *]; (first | done | exact rfl)) | rfl)) ?_ ?_ <;> intro hb <;> (try simp only [beq_false, beq_true, Bool.not_true, Bool.not_false, Bool.not_eq_true', Bool.not_eq_false', decide_eq_false_iff_not, decide_eq_true_eq, bne_iff_ne, beq_iff_eq, Bool.true_eq, Bool.false_eq, Bool.not_not, Bool.and_eq_true, Bool.or_eq_true, Bool.bne_true, Bool.bne_false, bne_eq_false_iff_eq, beq_eq_false_iff_ne, ne_eq] at hb))
                | (refine W_cond _ (by (first | (simp only [go_sem, *]; (first | done | exact rfl)) | rfl)) ?_ ?_ <;> intro hb <;> (try simp only [beq_false, beq_true, Bool.not_true, Bool.not_false, Bool.not_eq_true', Bool.not_eq_false', decide_eq_false_iff_not, decide_eq_true_eq, bne_iff_ne, beq_iff_eq, Bool.true_eq, Bool.false_eq, Bool.not_not, Bool.and_eq_true, Bool.or_eq_true, Bool.bne_true, Bool.bne_false, bne_eq_false_iff_eq, beq_eq_false_iff_ne, ne_eq] at hb)))
              all_goals exact ⟨rfl, HU⟩
            | true =>
              cases B6 : decide (0 ≤ s2 ∧ s2 ≤ 1099511627776) with
              | false =>
                have e : chk k1 k2 k3 k4 C n1 s1 s2 x L = 2 := by unfold chk; rw [B0, B1, B2, B3, B4, B5, B6]; rfl
                rw [e]
                refine Sp_of (fn := f48) rfl (show W T b48 [.agg [.int .i64 k1, .int .i64 k2, .int .i64 k3, .int .i64 k4, .int .u64 (C : Int), .int .i64 n1, .int .i64 s1, .int .i64 s2, .bool ok, .str (bs x), S], .tup [], .tup [], .tup [], .tup [], .tup [], .tup [], .tup [], .tup [], .tup [], .tup [], .tup [], .tup [], .tup [], .tup [], .tup [], .tup [], .tup [], .tup [], .tup [], .tup [], .tup [], .tup [], .tup [], .tup [], .tup [], .tup [], .tup [], .tup [], .tup [], .tup [], .tup [], .tup [], .tup [], .tup [], .tup [], .tup [], .tup [], .tup [], .tup [], .tup [], .tup [], .tup [], .tup [], .tup [], .tup [], .tup [], .tup [], .tup [], .tup [], .tup [], .tup [], .tup [], .tup [], .tup [], .tup [], .tup [], .tup [], .tup [], .tup [], .tup [], .tup [], .tup [], .tup [], .tup [], .tup [], .tup [], .tup [], .tup [], .tup [], .tup [], .tup [], .tup [], .tup [], .tup [], .tup [], .tup [], .tup [], .tup [], .tup [], .tup [], .tup [], .tup [], .tup [], .tup [], .tup [], .tup [], .tup [], .tup [], .tup [], .tup [], .tup [], .tup [], .tup [], .tup [], .tup [], .tup [], .tup [], .tup [], .tup [], .tup [], .tup []] _ _ from ?_)
                unfold b48
                repeat' (first
                  | (refine wNil ?_) | (refine xPure ?_)
                  | (refine xMk ?_; intro id hid; (try simp only [set_none_iff] at hid); refine mkDo ?_)
                  | (refine xChk ?_) | (refine xChkF ?_) | (refine xSkip ?_)
                  | (refine xCall rfl rfl (sp70 k1 1 13 _) ?_; rintro v j2 ⟨rfl, hx⟩; cases hx; rw [B0]; refine nTm ?_)
                  | (refine xCall rfl rfl (sp70 k2 0 11 _) ?_; rintro v j2 ⟨rfl, hx⟩; cases hx; rw [B1]; refine nTm ?_)
                  | (refine xCall rfl rfl (sp70 k3 0 11 _) ?_; rintro v j2 ⟨rfl, hx⟩; cases hx; rw [B2]; refine nTm ?_)
                  | (refine xCall rfl rfl (sp70 k4 0 3 _) ?_; rintro v j2 ⟨rfl, hx⟩; cases hx; rw [B3]; refine nTm ?_)
                  | (refine xCall rfl rfl (sp71 C n1 _) ?_; rintro v j3 ⟨rfl, hu3⟩; rw [B4]; have hb3 := hu3 _ _ set_same; have HU : Up h j3 := (fun z b e => hu3 z b (by rw [set_ne (nei e hid)]; exact e)); refine nTm ?_)
                  | (refine xCall rfl rfl (sp70 s1 0 1099511627776 _) ?_; rintro v j2 ⟨rfl, hx⟩; cases hx; rw [B5]; refine nTm ?_)
                  | (refine xCall rfl rfl (sp70 s2 0 1099511627776 _) ?_; rintro v j2 ⟨rfl, hx⟩; cases hx; rw [B6]; refine nTm ?_)
                  | (refine cSeq ?_) | (refine cNorm ?_) | (refine cRet ?_) | (refine cExit ?_) | (refine W_reg rfl ?_) | (refine W_block ?_) | (refine W_ret ?_) | (refine W_skip ?_) | (refine W_exit ?_) | (refine bNorm ?_) | (refine bRet ?_) | (refine bExit ?_) | (refine bExitN rfl ?_)
                  | (refine xMask ?_) | (refine xT ?_) | (refine xF ?_) | (refine xRet ?_) | (refine xNorm ?_)
                  | (refine wSplit _ rfl (by (first | (simp only [go_sem, *]; (first | done | exact rfl)) | rfl)) ?_ ?_ <;> intro hb <;> (try simp only [beq_false, beq_true, Bool.not_true, Bool.not_false, Bool.not_eq_true', Bool.not_eq_false', decide_eq_false_iff_not, decide_eq_true_eq, bne_iff_ne, beq_iff_eq, Bool.true_eq, Bool.false_eq, Bool.not_not, Bool.and_eq_true, Bool.or_eq_true, Bool.bne_true, Bool.bne_false, bne_eq_false_iff_eq, beq_eq_false_iff_ne, ne_eq] at hb))
                  | (refine W_cond _ (by (first | (simp only [go_sem, *]; (first | done | exact rfl)) | rfl)) ?_ ?_ <;> intro hb <;> (try simp only [beq_false, beq_true, Bool.not_true, Bool.not_false, Bool.not_eq_true', Bool.not_eq_false', decide_eq_false_iff_not, decide_eq_true_eq, bne_iff_ne, beq_iff_eq, Bool.true_eq, Bool.false_eq, Bool.not_not, Bool.and_eq_true, Bool.or_eq_true, Bool.bne_true, Bool.bne_false, bne_eq_false_iff_eq, beq_eq_false_iff_ne, ne_eq] at hb)))
                all_goals exact ⟨rfl, HU⟩
              | true =>
                have e : chk k1 k2 k3 k4 C n1 s1 s2 x L = r1 x L := by unfold chk; rw [B0, B1, B2, B3, B4, B5, B6]; rfl
                refine Sp_of (fn := f48) rfl (show W T b48 [.agg [.int .i64 k1, .int .i64 k2, .int .i64 k3, .int .i64 k4, .int .u64 (C : Int), .int .i64 n1, .int .i64 s1, .int .i64 s2, .bool ok, .str (bs x), S], .tup [], .tup [], .tup [], .tup [], .tup [], .tup [], .tup [], .tup [], .tup [], .tup [], .tup [], .tup [], .tup [], .tup [], .tup [], .tup [], .tup [], .tup [], .tup [], .tup [], .tup [], .tup [], .tup [], .tup [], .tup [], .tup [], .tup [], .tup [], .tup [], .tup [], .tup [], .tup [], .tup [], .tup [], .tup [], .tup [], .tup [], .tup [], .tup [], .tup [], .tup [], .tup [], .tup [], .tup [], .tup [], .tup [], .tup [], .tup [], .tup [], .tup [], .tup [], .tup [], .tup [], .tup [], .tup [], .tup [], .tup [], .tup [], .tup [], .tup [], .tup [], .tup [], .tup [], .tup [], .tup [], .tup [], .tup [], .tup [], .tup [], .tup [], .tup [], .tup [], .tup [], .tup [], .tup [], .tup [], .tup [], .tup [], .tup [], .tup [], .tup [], .tup [], .tup [], .tup [], .tup [], .tup [], .tup [], .tup [], .tup [], .tup [], .tup [], .tup [], .tup [], .tup [], .tup [], .tup [], .tup [], .tup [], .tup [], .tup [], .tup []] _ _ from ?_)
                unfold b48
                repeat' (first
                  | (refine wNil ?_) | (refine xPure ?_)
                  | (refine xMk ?_; intro id hid; (try simp only [set_none_iff] at hid); refine mkDo ?_)
                  | (refine xChk ?_) | (refine xChkF ?_) | (refine xSkip ?_)
                  | (refine xCall rfl rfl (sp70 k1 1 13 _) ?_; rintro v j2 ⟨rfl, hx⟩; cases hx; rw [B0]; refine nTm ?_)
                  | (refine xCall rfl rfl (sp70 k2 0 11 _) ?_; rintro v j2 ⟨rfl, hx⟩; cases hx; rw [B1]; refine nTm ?_)
                  | (refine xCall rfl rfl (sp70 k3 0 11 _) ?_; rintro v j2 ⟨rfl, hx⟩; cases hx; rw [B2]; refine nTm ?_)
                  | (refine xCall rfl rfl (sp70 k4 0 3 _) ?_; rintro v j2 ⟨rfl, hx⟩; cases hx; rw [B3]; refine nTm ?_)
                  | (refine xCall rfl rfl (sp71 C n1 _) ?_; rintro v j3 ⟨rfl, hu3⟩; rw [B4]; have hb3 := hu3 _ _ set_same; have HU : Up h j3 := (fun z b e => hu3 z b (by rw [set_ne (nei e hid)]; exact e)); refine nTm ?_)
                  | (refine xCall rfl rfl (sp70 s1 0 1099511627776 _) ?_; rintro v j2 ⟨rfl, hx⟩; cases hx; rw [B5]; refine nTm ?_)
                  | (refine xCall rfl rfl (sp70 s2 0 1099511627776 _) ?_; rintro v j2 ⟨rfl, hx⟩; cases hx; rw [B6]; refine nTm ?_)
                  | (exact tail48a k1 k2 k3 k4 C n1 s1 s2 ok x S L true j3 id hb3 (hS.up HU) hl _ (fun g' hu' => ⟨by rw [e]; rfl, HU.trans hu'⟩) _ rfl)
                  | (refine cSeq ?_) | (refine cNorm ?_) | (refine cRet ?_) | (refine cExit ?_) | (refine W_reg rfl ?_) | (refine W_block ?_) | (refine W_ret ?_) | (refine W_skip ?_) | (refine W_exit ?_) | (refine bNorm ?_) | (refine bRet ?_) | (refine bExit ?_) | (refine bExitN rfl ?_)
                  | (refine xMask ?_) | (refine xT ?_) | (refine xF ?_) | (refine xRet ?_) | (refine xNorm ?_)
                  | (refine wSplit _ rfl (by (first | (simp only [go_sem, *]; (first | done | exact rfl)) | rfl)) ?_ ?_ <;> intro hb <;> (try simp only [beq_false, beq_true, Bool.not_true, Bool.not_false, Bool.not_eq_true', Bool.not_eq_false', decide_eq_false_iff_not, decide_eq_true_eq, bne_iff_ne, beq_iff_eq, Bool.true_eq, Bool.false_eq, Bool.not_not, Bool.and_eq_true, Bool.or_eq_true, Bool.bne_true, Bool.bne_false, bne_eq_false_iff_eq, beq_eq_false_iff_ne, ne_eq] at hb))
                  | (refine W_cond _ (by (first | (simp only [go_sem, *]; (first | done | exact rfl)) | rfl)) ?_ ?_ <;> intro hb <;> (try simp only [beq_false, beq_true, Bool.not_true, Bool.not_false, Bool.not_eq_true', Bool.not_eq_false', decide_eq_false_iff_not, decide_eq_true_eq, bne_iff_ne, beq_iff_eq, Bool.true_eq, Bool.false_eq, Bool.not_not, Bool.and_eq_true, Bool.or_eq_true, Bool.bne_true, Bool.bne_false, bne_eq_false_iff_eq, beq_eq_false_iff_ne, ne_eq] at hb)))
end Go.Proofs.YtgekngfnhhdamaaI
set_option linter.unusedVariables false
set_option linter.unusedSimpArgs false
set_option maxRecDepth 100000
set_option maxHeartbeats 4000000
namespace Go.Proofs.YtgekngfnhhdamaaI
open Go Go.Proofs.YtgekngfnhhdamaaM
attribute [local go_sem] aop ev fg_slc fg_slk fg_ptr fg_bool fg_int fg_str fg_iface fg_func fg_agg fg_tup fg_nils fg_nilp fg_nilI fg_nilF fg_und aboundsK alen_nils alen_slc alen_slk aslice_nils aslice_slc aslice_slk awanted abin aun aint aeqn aeqc aeqs apart abounds abnd amaxi amaxiGo cells_agg cells_slc cells_slk cells_ptr cells_bool cells_int cells_str cells_iface cells_func cells_tup cells_nils cells_nilp cells_nilI cells_nilF cells_und sc_slc sc_slk sc_ptr sc_bool sc_int sc_str sc_iface sc_func sc_nils sc_nilp sc_nilI sc_nilF gd_zero gd_succ List.all_cons List.all_nil Bool.and_self Bool.and_true Bool.true_and List.length_cons List.length_nil Option.map_some Option.some.injEq cell_same cell_ne cell_ne' cellsAt_same cellsAt_ne cellsAt_ne' put_same put_of set_same set_ne set_ne' List.getElem?_cons_zero List.getElem?_cons_succ if_true if_false and_self and_true true_and ne_eq not_true_eq_false not_false_eq_true decide_true decide_false Bool.false_eq_true Bool.true_eq_false beq_self_eq_true bne_self_eq_false beq_true beq_false Bool.not_true Bool.not_false List.map_cons List.map_nil putL List.set_cons_zero List.set_cons_succ afill Nat.zero_le Nat.le_refl Nat.zero_add Nat.add_zero List.drop_zero List.drop_succ_cons List.take_zero List.take_succ_cons Bool.not_eq_true Bool.not_eq_false decide_eq_true_eq decide_eq_false_iff_not Int.toNat_zero Nat.sub_zero Int.toNat_natCast Bool.bne_true Bool.bne_false AH.cell AH.cellsAt AH.put Nat.mul_one Nat.one_mul Int.natCast_nonneg List.length_set bs_append bs_size bs_toList bs_extract bs_get List.cons_append List.nil_append List.append_nil Nat.sub_zero bne_self_eq_false beq_self_eq_true azeros Int.le_refl
/-- within -/
theorem sp82 (n hi : Int) (h : AH) : Sp T 82 [.int .i64 n, .int .i64 hi] h (fun v h' => v = .bool (decide (0 ≤ n ∧ n ≤ hi)) ∧ h' = h) := by
  by_cases c1 : n ≥ 0
  · by_cases c2 : n ≤ hi
    · refine Sp_of (fn := f82) rfl (show W T b82 [.int .i64 n, .int .i64 hi, .tup [], .tup [], .tup [], .tup [], .tup [], .tup [], .tup [], .tup [], .tup [], .tup []] _ _ from ?_)
      unfold b82
      repeat' (first
        | (refine wNil ?_) | (refine xPure ?_)
        | (refine xMk ?_; intro id hid; (try simp only [set_none_iff] at hid); refine mkDo ?_)
        | (refine xChk ?_) | (refine xChkF ?_) | (refine xSkip ?_)
        | (refine cSeq ?_) | (refine cNorm ?_) | (refine cRet ?_) | (refine cExit ?_) | (refine W_reg rfl ?_) | (refine W_block ?_) | (refine W_ret ?_) | (refine W_skip ?_) | (refine W_exit ?_) | (refine bNorm ?_) | (refine bRet ?_) | (refine bExit ?_) | (refine bExitN rfl ?_)
        | (refine xMask ?_) | (refine xT ?_) | (refine xF ?_) | (refine xRet ?_) | (refine xNorm ?_)
        | (refine wSplit _ rfl (by (first | (simp only [go_sem, *]; (first | done | exact rfl)) | rfl)) ?_ ?_ <;> intro hb <;> (try simp only [beq_false, beq_true, Bool.not_true, Bool.not_false, Bool.not_eq_true', Bool.not_eq_false', decide_eq_false_iff_not, decide_eq_true_eq, bne_iff_ne, beq_iff_eq, Bool.true_eq, Bool.false_eq, Bool.not_not, Bool.and_eq_true, Bool.or_eq_true, Bool.bne_true, Bool.bne_false, bne_eq_false_iff_eq, beq_eq_false_iff_ne, ne_eq] at hb))
        | (refine W_cond _ (by (first | (simp only [go_sem, *]; (first | done | exact rfl)) | rfl)) ?_ ?_ <;> intro hb <;> (try simp only [beq_false, beq_true, Bool.not_true, Bool.not_false, Bool.not_eq_true', Bool.not_eq_false', decide_eq_false_iff_not, decide_eq_true_eq, bne_iff_ne, beq_iff_eq, Bool.true_eq, Bool.false_eq, Bool.not_not, Bool.and_eq_true, Bool.or_eq_true, Bool.bne_true, Bool.bne_false, bne_eq_false_iff_eq, beq_eq_false_iff_ne, ne_eq] at hb)))
      all_goals exact ⟨by rw [decide_eq_true (show 0 ≤ n ∧ n ≤ hi from ⟨c1, c2⟩)]; rfl, rfl⟩
    · refine Sp_of (fn := f82) rfl (show W T b82 [.int .i64 n, .int .i64 hi, .tup [], .tup [], .tup [], .tup [], .tup [], .tup [], .tup [], .tup [], .tup [], .tup []] _ _ from ?_)
      unfold b82
      repeat' (first
        | (refine wNil ?_) | (refine xPure ?_)
        | (refine xMk ?_; intro id hid; (try simp only [set_none_iff] at hid); refine mkDo ?_)
        | (refine xChk ?_) | (refine xChkF ?_) | (refine xSkip ?_)
        | (refine cSeq ?_) | (refine cNorm ?_) | (refine cRet ?_) | (refine cExit ?_) | (refine W_reg rfl ?_) | (refine W_block ?_) | (refine W_ret ?_) | (refine W_skip ?_) | (refine W_exit ?_) | (refine bNorm ?_) | (refine bRet ?_) | (refine bExit ?_) | (refine bExitN rfl ?_)
        | (refine xMask ?_) | (refine xT ?_) | (refine xF ?_) | (refine xRet ?_) | (refine xNorm ?_)
        | (refine wSplit _ rfl (by (first | (simp only [go_sem, *]; (first | done | exact rfl)) | rfl)) ?_ ?_ <;> intro hb <;> (try simp only [beq_false, beq_true, Bool.not_true, Bool.not_false, Bool.not_eq_true', Bool.not_eq_false', decide_eq_false_iff_not, decide_eq_true_eq, bne_iff_ne, beq_iff_eq, Bool.true_eq, Bool.false_eq, Bool.not_not, Bool.and_eq_true, Bool.or_eq_true, Bool.bne_true, Bool.bne_false, bne_eq_false_iff_eq, beq_eq_false_iff_ne, ne_eq] at hb))
        | (refine W_cond _ (by (first | (simp only [go_sem, *]; (first | done | exact rfl)) | rfl)) ?_ ?_ <;> intro hb <;> (try simp only [beq_false, beq_true, Bool.not_true, Bool.not_false, Bool.not_eq_true', Bool.not_eq_false', decide_eq_false_iff_not, decide_eq_true_eq, bne_iff_ne, beq_iff_eq, Bool.true_eq, Bool.false_eq, Bool.not_not, Bool.and_eq_true, Bool.or_eq_true, Bool.bne_true, Bool.bne_false, bne_eq_false_iff_eq, beq_eq_false_iff_ne, ne_eq] at hb)))
      all_goals exact ⟨by rw [decide_eq_false (fun hh : 0 ≤ n ∧ n ≤ hi => c2 hh.2)]; rfl, rfl⟩
  · refine Sp_of (fn := f82) rfl (show W T b82 [.int .i64 n, .int .i64 hi, .tup [], .tup [], .tup [], .tup [], .tup [], .tup [], .tup [], .tup [], .tup [], .tup []] _ _ from ?_)
    unfold b82
    repeat' (first
      | (refine wNil ?_) | (refine xPure ?_)
      | (refine xMk ?_; intro id hid; (try simp only [set_none_iff] at hid); refine mkDo ?_)
      | (refine xChk ?_) | (refine xChkF ?_) | (refine xSkip ?_)
      | (refine cSeq ?_) | (refine cNorm ?_) | (refine cRet ?_) | (refine cExit ?_) | (refine W_reg rfl ?_) | (refine W_block ?_) | (refine W_ret ?_) | (refine W_skip ?_) | (refine W_exit ?_) | (refine bNorm ?_) | (refine bRet ?_) | (refine bExit ?_) | (refine bExitN rfl ?_)
      | (refine xMask ?_) | (refine xT ?_) | (refine xF ?_) | (refine xRet ?_) | (refine xNorm ?_)
      | (refine wSplit _ rfl (by (first | (simp only [go_sem, *]; (first | done | exact rfl)) | rfl)) ?_ ?_ <;> intro hb <;> (try simp only [beq_false, beq_true, Bool.not_true, Bool.not_false, Bool.not_eq_true', Bool.not_eq_false', decide_eq_false_iff_not, decide_eq_true_eq, bne_iff_ne, beq_iff_eq, Bool.true_eq, Bool.false_eq, Bool.not_not, Bool.and_eq_true, Bool.or_eq_true, Bool.bne_true, Bool.bne_false, bne_eq_false_iff_eq, beq_eq_false_iff_ne, ne_eq] at hb))
      | (refine W_cond _ (by (first | (simp only [go_sem, *]; (first | done | exact rfl)) | rfl)) ?_ ?_ <;> intro hb <;> (try simp only [beq_false, beq_true, Bool.not_true, Bool.not_false, Bool.not_eq_true', Bool.not_eq_false', decide_eq_false_iff_not, decide_eq_true_eq, bne_iff_ne, beq_iff_eq, Bool.true_eq, Bool.false_eq, Bool.not_not, Bool.and_eq_true, Bool.or_eq_true, Bool.bne_true, Bool.bne_false, bne_eq_false_iff_eq, beq_eq_false_iff_ne, ne_eq] at hb)))
    all_goals exact ⟨by rw [decide_eq_false (fun hh : 0 ≤ n ∧ n ≤ hi => c1 hh.1)]; rfl, rfl⟩
/-- sound -/
theorem sp83 (C : Nat) (n : Int) (h : AH) : Sp T 83 [.agg [.int .u64 C, .int .i64 n]] h (fun v h' => v = .bool (snd C n) ∧ Up h h') := by
  by_cases c1 : 0 ≤ n ∧ n ≤ 11
  · have K0 := decide_eq_true c1
    by_cases c3 : 0 < C
    · have c3' : (C : Int) > 0 := by omega
      have e : snd C n = true := decide_eq_true ⟨c1, .inr c3⟩
      rw [e]
      clear e c1
      refine Sp_of (fn := f83) rfl (show W T b83 [.agg [.int .u64 C, .int .i64 n], .tup [], .tup [], .tup [], .tup [], .tup [], .tup [], .tup [], .tup [], .tup [], .tup [], .tup [], .tup [], .tup [], .tup [], .tup []] _ _ from ?_)
      unfold b83
      repeat' (first
        | (refine wNil ?_) | (refine xPure ?_)
        | (refine xMk ?_; intro id hid; (try simp only [set_none_iff] at hid); refine mkDo ?_)
        | (refine xChk ?_) | (refine xChkF ?_) | (refine xSkip ?_)
        | (refine xCall rfl rfl (sp82 n 11 _) ?_; rintro v h' ⟨rfl, hx⟩; cases hx; rw [K0]; refine nTm ?_)
        | (refine cSeq ?_) | (refine cNorm ?_) | (refine cRet ?_) | (refine cExit ?_) | (refine W_reg rfl ?_) | (refine W_block ?_) | (refine W_ret ?_) | (refine W_skip ?_) | (refine W_exit ?_) | (refine bNorm ?_) | (refine bRet ?_) | (refine bExit ?_) | (refine bExitN rfl ?_)
        | (refine xMask ?_) | (refine xT ?_) | (refine xF ?_) | (refine xRet ?_) | (refine xNorm ?_)
        | (refine wSplit _ rfl (by (first | (simp only [go_sem, *]; (first | done | exact rfl)) | rfl)) ?_ ?_ <;> intro hb <;> (try simp only [beq_false, beq_true, Bool.not_true, Bool.not_false, Bool.not_eq_true', Bool.not_eq_false', decide_eq_false_iff_not, decide_eq_true_eq, bne_iff_ne, beq_iff_eq, Bool.true_eq, Bool.false_eq, Bool.not_not, Bool.and_eq_true, Bool.or_eq_true, Bool.bne_true, Bool.bne_false, bne_eq_false_iff_eq, beq_eq_false_iff_ne, ne_eq] at hb))
        | (refine W_cond _ (by (first | (simp only [go_sem, *]; (first | done | exact rfl)) | rfl)) ?_ ?_ <;> intro hb <;> (try simp only [beq_false, beq_true, Bool.not_true, Bool.not_false, Bool.not_eq_true', Bool.not_eq_false', decide_eq_false_iff_not, decide_eq_true_eq, bne_iff_ne, beq_iff_eq, Bool.true_eq, Bool.false_eq, Bool.not_not, Bool.and_eq_true, Bool.or_eq_true, Bool.bne_true, Bool.bne_false, bne_eq_false_iff_eq, beq_eq_false_iff_ne, ne_eq] at hb)))
      all_goals exact ⟨rfl, Up.new (Up.refl h) (by assumption)⟩
    · have c3' : ¬ (C : Int) > 0 := by omega
      by_cases c2 : n = 0
      · have c2' : (n == 0) = true := by simpa using c2
        have e : snd C n = true := decide_eq_true ⟨c1, .inl c2⟩
        rw [e]
        clear e c2 c1
        refine Sp_of (fn := f83) rfl (show W T b83 [.agg [.int .u64 C, .int .i64 n], .tup [], .tup [], .tup [], .tup [], .tup [], .tup [], .tup [], .tup [], .tup [], .tup [], .tup [], .tup [], .tup [], .tup [], .tup []] _ _ from ?_)
        unfold b83
        repeat' (first
          | (refine wNil ?_) | (refine xPure ?_)
          | (refine xMk ?_; intro id hid; (try simp only [set_none_iff] at hid); refine mkDo ?_)
          | (refine xChk ?_) | (refine xChkF ?_) | (refine xSkip ?_)
          | (refine xCall rfl rfl (sp82 n 11 _) ?_; rintro v h' ⟨rfl, hx⟩; cases hx; rw [K0]; refine nTm ?_)
          | (refine cSeq ?_) | (refine cNorm ?_) | (refine cRet ?_) | (refine cExit ?_) | (refine W_reg rfl ?_) | (refine W_block ?_) | (refine W_ret ?_) | (refine W_skip ?_) | (refine W_exit ?_) | (refine bNorm ?_) | (refine bRet ?_) | (refine bExit ?_) | (refine bExitN rfl ?_)
          | (refine xMask ?_) | (refine xT ?_) | (refine xF ?_) | (refine xRet ?_) | (refine xNorm ?_)
          | (refine wSplit _ rfl (by (first | (simp only [go_sem, *]; (first | done | exact rfl)) | rfl)) ?_ ?_ <;> intro hb <;> (try simp only [beq_false, beq_true, Bool.not_true, Bool.not_false, Bool.not_eq_true', Bool.not_eq_false', decide_eq_false_iff_not, decide_eq_true_eq, bne_iff_ne, beq_iff_eq, Bool.true_eq, Bool.false_eq, Bool.not_not, Bool.and_eq_true, Bool.or_eq_true, Bool.bne_true, Bool.bne_false, bne_eq_false_iff_eq, beq_eq_false_iff_ne, ne_eq] at hb))
          | (refine W_cond _ (by (first | (simp only [go_sem, *]; (first | done | exact rfl)) | rfl)) ?_ ?_ <;> intro hb <;> (try simp only [beq_false, beq_true, Bool.not_true, Bool.not_false, Bool.not_eq_true', Bool.not_eq_false', decide_eq_false_iff_not, decide_eq_true_eq, bne_iff_ne, beq_iff_eq, Bool.true_eq, Bool.false_eq, Bool.not_not, Bool.and_eq_true, Bool.or_eq_true, Bool.bne_true, Bool.bne_false, bne_eq_false_iff_eq, beq_eq_false_iff_ne, ne_eq] at hb)))
        all_goals exact ⟨rfl, Up.new (Up.refl h) (by assumption)⟩
      · have c2' : (n == 0) = false := by simpa using c2
        have e : snd C n = false := decide_eq_false (fun hh => hh.2.elim c2 c3)
        rw [e]
        clear e c2 c1
        refine Sp_of (fn := f83) rfl (show W T b83 [.agg [.int .u64 C, .int .i64 n], .tup [], .tup [], .tup [], .tup [], .tup [], .tup [], .tup [], .tup [], .tup [], .tup [], .tup [], .tup [], .tup [], .tup [], .tup []] _ _ from ?_)
        unfold b83
        repeat' (first
          | (refine wNil ?_) | (refine xPure ?_)
          | (refine xMk ?_; intro id hid; (try simp only [set_none_iff] at hid); refine mkDo ?_)
          | (refine xChk ?_) | (refine xChkF ?_) | (refine xSkip ?_)
          | (refine xCall rfl rfl (sp82 n 11 _) ?_; rintro v h' ⟨rfl, hx⟩; cases hx; rw [K0]; refine nTm ?_)
          | (refine cSeq ?_) | (refine cNorm ?_) | (refine cRet ?_) | (refine cExit ?_) | (refine W_reg rfl ?_) | (refine W_block ?_) | (refine W_ret ?_) | (refine W_skip ?_) | (refine W_exit ?_) | (refine bNorm ?_) | (refine bRet ?_) | (refine bExit ?_) | (refine bExitN rfl ?_)
          | (refine xMask ?_) | (refine xT ?_) | (refine xF ?_) | (refine xRet ?_) | (refine xNorm ?_)
          | (refine wSplit _ rfl (by (first | (simp only [go_sem, *]; (first | done | exact rfl)) | rfl)) ?_ ?_ <;> intro hb <;> (try simp only [beq_false, beq_true, Bool.not_true, Bool.not_false, Bool.not_eq_true', Bool.not_eq_false', decide_eq_false_iff_not, decide_eq_true_eq, bne_iff_ne, beq_iff_eq, Bool.true_eq, Bool.false_eq, Bool.not_not, Bool.and_eq_true, Bool.or_eq_true, Bool.bne_true, Bool.bne_false, bne_eq_false_iff_eq, beq_eq_false_iff_ne, ne_eq] at hb))
          | (refine W_cond _ (by (first | (simp only [go_sem, *]; (first | done | exact rfl)) | rfl)) ?_ ?_ <;> intro hb <;> (try simp only [beq_false, beq_true, Bool.not_true, Bool.not_false, Bool.not_eq_true', Bool.not_eq_false', decide_eq_false_iff_not, decide_eq_true_eq, bne_iff_ne, beq_iff_eq, Bool.true_eq, Bool.false_eq, Bool.not_not, Bool.and_eq_true, Bool.or_eq_true, Bool.bne_true, Bool.bne_false, bne_eq_false_iff_eq, beq_eq_false_iff_ne, ne_eq] at hb)))
        all_goals exact ⟨rfl, Up.new (Up.refl h) (by assumption)⟩
  · have K0 := decide_eq_false c1
    have e : snd C n = false := decide_eq_false (fun hh => c1 hh.1)
    rw [e]
    clear e c1
    refine Sp_of (fn := f83) rfl (show W T b83 [.agg [.int .u64 C, .int .i64 n], .tup [], .tup [], .tup [], .tup [], .tup [], .tup [], .tup [], .tup [], .tup [], .tup [], .tup [], .tup [], .tup [], .tup [], .tup []] _ _ from ?_)
    unfold b83
    repeat' (first
      | (refine wNil ?_) | (refine xPure ?_)
      | (refine xMk ?_; intro id hid; (try simp only [set_none_iff] at hid); refine mkDo ?_)
      | (refine xChk ?_) | (refine xChkF ?_) | (refine xSkip ?_)
      | (refine xCall rfl rfl (sp82 n 11 _) ?_; rintro v h' ⟨rfl, hx⟩; cases hx; rw [K0]; refine nTm ?_)
      | (refine cSeq ?_) | (refine cNorm ?_) | (refine cRet ?_) | (refine cExit ?_) | (refine W_reg rfl ?_) | (refine W_block ?_) | (refine W_ret ?_) | (refine W_skip ?_) | (refine W_exit ?_) | (refine bNorm ?_) | (refine bRet ?_) | (refine bExit ?_) | (refine bExitN rfl ?_)
      | (refine xMask ?_) | (refine xT ?_) | (refine xF ?_) | (refine xRet ?_) | (refine xNorm ?_)
      | (refine wSplit _ rfl (by (first | (simp only [go_sem, *]; (first | done | exact rfl)) | rfl)) ?_ ?_ <;> intro hb <;> (try simp only [beq_false, beq_true, Bool.not_true, Bool.not_false, Bool.not_eq_true', Bool.not_eq_false', decide_eq_false_iff_not, decide_eq_true_eq, bne_iff_ne, beq_iff_eq, Bool.true_eq, Bool.false_eq, Bool.not_not, Bool.and_eq_true, Bool.or_eq_true, Bool.bne_true, Bool.bne_false, bne_eq_false_iff_eq, beq_eq_false_iff_ne, ne_eq] at hb))
      | (refine W_cond _ (by (first | (simp only [go_sem, *]; (first | done | exact rfl)) | rfl)) ?_ ?_ <;> intro hb <;> (try simp only [beq_false, beq_true, Bool.not_true, Bool.not_false, Bool.not_eq_true', Bool.not_eq_false', decide_eq_false_iff_not, decide_eq_true_eq, bne_iff_ne, beq_iff_eq, Bool.true_eq, Bool.false_eq, Bool.not_not, Bool.and_eq_true, Bool.or_eq_true, Bool.bne_true, Bool.bne_false, bne_eq_false_iff_eq, beq_eq_false_iff_ne, ne_eq] at hb)))
    all_goals exact ⟨rfl, Up.new (Up.refl h) (by assumption)⟩
/-- great's -/
theorem sp84 (y1 : Int) (y2 : Nat) (y3 : Int) (y4 : List UInt8) (h : AH) : Sp T 84 [.agg [.int .i64 y1, .int .u64 (y2 : Int), .int .i64 y3, .str (bs y4)]] h (fun v h' => v = .bool (!(p4 (y1, y2, y3, y4))) ∧ Up h h') := by
  have e : (!(p4 (y1, y2, y3, y4))) = decide ((y4.length : Int) > 400) := by
    by_cases hh : y4.length ≤ 400
    · rw [show p4 (y1, y2, y3, y4) = true from decide_eq_true hh, decide_eq_false (by omega)]; rfl
    · rw [show p4 (y1, y2, y3, y4) = false from decide_eq_false hh, decide_eq_true (by omega)]; rfl
  rw [e]
  clear e
  refine Sp_of (fn := f84) rfl (show W T b84 [.agg [.int .i64 y1, .int .u64 (y2 : Int), .int .i64 y3, .str (bs y4)], .tup [], .tup [], .tup [], .tup [], .tup [], .tup []] _ _ from ?_)
  unfold b84
  repeat' (first
    | (refine wNil ?_) | (refine xPure ?_)
    | (refine xMk ?_; intro id hid; (try simp only [set_none_iff] at hid); refine mkDo ?_)
    | (refine xChk ?_) | (refine xChkF ?_) | (refine xSkip ?_)
    | (refine cSeq ?_) | (refine cNorm ?_) | (refine cRet ?_) | (refine cExit ?_) | (refine W_reg rfl ?_) | (refine W_block ?_) | (refine W_ret ?_) | (refine W_skip ?_) | (refine W_exit ?_) | (refine bNorm ?_) | (refine bRet ?_) | (refine bExit ?_) | (refine bExitN rfl ?_)
    | (refine xMask ?_) | (refine xT ?_) | (refine xF ?_) | (refine xRet ?_) | (refine xNorm ?_)
    | (refine wSplit _ rfl (by (first | (simp only [go_sem, *]; (first | done | exact rfl)) | rfl)) ?_ ?_ <;> intro hb <;> (try simp only [beq_false, beq_true, Bool.not_true, Bool.not_false, Bool.not_eq_true', Bool.not_eq_false', decide_eq_false_iff_not, decide_eq_true_eq, bne_iff_ne, beq_iff_eq, Bool.true_eq, Bool.false_eq, Bool.not_not, Bool.and_eq_true, Bool.or_eq_true, Bool.bne_true, Bool.bne_false, bne_eq_false_iff_eq, beq_eq_false_iff_ne, ne_eq] at hb))
    | (refine W_cond _ (by (first | (simp only [go_sem, *]; (first | done | exact rfl)) | rfl)) ?_ ?_ <;> intro hb <;> (try simp only [beq_false, beq_true, Bool.not_true, Bool.not_false, Bool.not_eq_true', Bool.not_eq_false', decide_eq_false_iff_not, decide_eq_true_eq, bne_iff_ne, beq_iff_eq, Bool.true_eq, Bool.false_eq, Bool.not_not, Bool.and_eq_true, Bool.or_eq_true, Bool.bne_true, Bool.bne_false, bne_eq_false_iff_eq, beq_eq_false_iff_ne, ne_eq] at hb)))
  all_goals exact ⟨rfl, Up.new (Up.refl h) (by assumption)⟩
/-- slices.IndexFunc -/
theorem sp89 (S : AV) (L : List En) (h : AH) (hS : Le h S L) (hl : L.length ≤ 1000) : Sp T 89 [S, .func 84 [] []] h (fun v h' => ∃ r : Int, v = .int .i64 r ∧ decide (r ≥ 0) = (!(L.all p4)) ∧ Up h h') := by
  have hSl := hS.len
  refine Sp_of (fn := f89) rfl (show W T b89 [S, .func 84 [] [], .tup [], .tup [], .tup [], .tup [], .tup [], .tup [], .tup [], .tup [], .tup [], .tup [], .tup [], .tup [], .tup [], .tup [], .tup [], .tup [], .tup []] _ _ from ?_)
  unfold b89
  repeat' (first
    | (refine wNil ?_) | (refine xPure ?_)
    | (refine xMk ?_; intro id hid; (try simp only [set_none_iff] at hid); refine mkDo ?_)
    | (refine xChk ?_) | (refine xChkF ?_) | (refine xSkip ?_)
    | (refine cSeq ?_) | (refine cNorm ?_) | (refine cRet ?_) | (refine cExit ?_) | (refine W_reg rfl ?_) | (refine W_block ?_) | (refine W_ret ?_) | (refine W_skip ?_) | (refine W_exit ?_) | (refine bNorm ?_) | (refine bRet ?_) | (refine bExit ?_) | (refine bExitN rfl ?_)
    | (refine xMask ?_) | (refine xT ?_) | (refine xF ?_) | (refine xRet ?_) | (refine xNorm ?_)
    | (refine wSplit _ rfl (by (first | (simp only [go_sem, *]; (first | done | exact rfl)) | rfl)) ?_ ?_ <;> intro hb <;> (try simp only [beq_false, beq_true, Bool.not_true, Bool.not_false, Bool.not_eq_true', Bool.not_eq_false', decide_eq_false_iff_not, decide_eq_true_eq, bne_iff_ne, beq_iff_eq, Bool.true_eq, Bool.false_eq, Bool.not_not, Bool.and_eq_true, Bool.or_eq_true, Bool.bne_true, Bool.bne_false, bne_eq_false_iff_eq, beq_eq_false_iff_ne, ne_eq] at hb))
    | (refine W_cond _ (by (first | (simp only [go_sem, *]; (first | done | exact rfl)) | rfl)) ?_ ?_ <;> intro hb <;> (try simp only [beq_false, beq_true, Bool.not_true, Bool.not_false, Bool.not_eq_true', Bool.not_eq_false', decide_eq_false_iff_not, decide_eq_true_eq, bne_iff_ne, beq_iff_eq, Bool.true_eq, Bool.false_eq, Bool.not_not, Bool.and_eq_true, Bool.or_eq_true, Bool.bne_true, Bool.bne_false, bne_eq_false_iff_eq, beq_eq_false_iff_ne, ne_eq] at hb)))
  refine W_loop (fun m tm g => ∃ k : Nat, k + m = L.length ∧ Up h g ∧ L.all p4 = (L.drop k).all p4 ∧ keep [0, 1, 7, 8] 0 tm = [S, .func 84 [] [], .und, .und, .und, .und, .und, .int .i64 (L.length : Int), .int .i64 (k : Int), .und, .und, .und, .und, .und, .und, .und, .und, .und, .und]) L.length ⟨0, by omega, Up.refl h, by rw [List.drop_zero], rfl⟩ ?_
  rintro m tm g ⟨k, hk, hu, hr, htm⟩
  refine cSeq (cMask (cNorm ?_))
  rw [htm]; clear htm
  by_cases hkl : k < L.length
  · have d1 : (k : Int) < (L.length : Int) := by omega
    have d2 : (0 : Int) ≤ (k : Int) := by omega
    have w1 : IntKind.i64.wrap ((k : Int) + 1) = ((k + 1 : Nat) : Int) := by rw [wrap64 (by omega) (by omega)]; rfl
    obtain ⟨⟨y1, y2, y3, y4⟩, hy⟩ : ∃ y, L[k]? = some y := ⟨_, List.getElem?_eq_getElem hkl⟩
    have hdr : L.drop k = (y1, y2, y3, y4) :: L.drop (k + 1) := by rw [List.drop_eq_getElem_cons hkl, (List.getElem?_eq_some_iff.1 hy).2]
    rw [hdr, List.all_cons] at hr
    rcases hS with ⟨rfl, rfl⟩ | ⟨iL, ow, rfl, hL⟩
    · simp at hkl
    have hLg := hu _ _ hL
    obtain ⟨g1, g2⟩ := flat_get eMz hy []
    rw [List.append_nil] at g1 g2
    simp only [eM] at g2
    clear hdr hy
    cases B1 : (!(p4 (y1, y2, y3, y4))) with
    | true =>
      have e : (!(L.all p4)) = true := by rw [hr]; rw [Bool.not_eq_true'] at B1; rw [B1]; rfl
      clear hr
      repeat' (first
        | (refine wNil ?_) | (refine xPure ?_)
        | (refine xMk ?_; intro id hid; (try simp only [set_none_iff] at hid); refine mkDo ?_)
        | (refine xChk ?_) | (refine xChkF ?_) | (refine xSkip ?_)
        | (refine wCallV rfl (by (first | (simp only [awanted, gd_zero, gd_succ, beq_self_eq_true, beq_true, beq_false, Bool.not_true, Bool.not_false, *]; done) | rfl)) rfl (by (first | rfl | (simp only [go_sem, *]; done))) (Sp.mono (sp84 y1 y2 y3 y4 _) ?_); rintro v j1 ⟨rfl, hu1⟩; rw [B1]; have HU : Up h j1 := hu.trans hu1; dsimp only [putT, ev, Int.toNat_zero, Nat.sub_zero, Int.toNat_natCast,  gd_zero, gd_succ, Nat.zero_add, Nat.add_zero, Nat.reduceAdd, Nat.reduceMul, List.set_cons_zero, List.set_cons_succ, keep, List.contains_cons, List.contains_nil])
        | (refine cSeq ?_) | (refine cNorm ?_) | (refine cRet ?_) | (refine cExit ?_) | (refine W_reg rfl ?_) | (refine W_block ?_) | (refine W_ret ?_) | (refine W_skip ?_) | (refine W_exit ?_) | (refine bNorm ?_) | (refine bRet ?_) | (refine bExit ?_) | (refine bExitN rfl ?_)
        | (refine xMask ?_) | (refine xT ?_) | (refine xF ?_) | (refine xRet ?_) | (refine xNorm ?_)
        | (refine wSplit _ rfl (by (first | (simp only [go_sem, *]; (first | done | exact rfl)) | rfl)) ?_ ?_ <;> intro hb <;> (try simp only [beq_false, beq_true, Bool.not_true, Bool.not_false, Bool.not_eq_true', Bool.not_eq_false', decide_eq_false_iff_not, decide_eq_true_eq, bne_iff_ne, beq_iff_eq, Bool.true_eq, Bool.false_eq, Bool.not_not, Bool.and_eq_true, Bool.or_eq_true, Bool.bne_true, Bool.bne_false, bne_eq_false_iff_eq, beq_eq_false_iff_ne, ne_eq] at hb))
        | (refine W_cond _ (by (first | (simp only [go_sem, *]; (first | done | exact rfl)) | rfl)) ?_ ?_ <;> intro hb <;> (try simp only [beq_false, beq_true, Bool.not_true, Bool.not_false, Bool.not_eq_true', Bool.not_eq_false', decide_eq_false_iff_not, decide_eq_true_eq, bne_iff_ne, beq_iff_eq, Bool.true_eq, Bool.false_eq, Bool.not_not, Bool.and_eq_true, Bool.or_eq_true, Bool.bne_true, Bool.bne_false, bne_eq_false_iff_eq, beq_eq_false_iff_ne, ne_eq] at hb)))
      all_goals exact ⟨_, rfl, by rw [e]; exact decide_eq_true d2, HU⟩
    | false =>
      have e : L.all p4 = (L.drop (k + 1)).all p4 := by rw [hr]; rw [Bool.not_eq_false'] at B1; rw [B1]; rfl
      clear hr
      repeat' (first
        | (refine wNil ?_) | (refine xPure ?_)
        | (refine xMk ?_; intro id hid; (try simp only [set_none_iff] at hid); refine mkDo ?_)
        | (refine xChk ?_) | (refine xChkF ?_) | (refine xSkip ?_)
        | (refine wCallV rfl (by (first | (simp only [awanted, gd_zero, gd_succ, beq_self_eq_true, beq_true, beq_false, Bool.not_true, Bool.not_false, *]; done) | rfl)) rfl (by (first | rfl | (simp only [go_sem, *]; done))) (Sp.mono (sp84 y1 y2 y3 y4 _) ?_); rintro v j1 ⟨rfl, hu1⟩; rw [B1]; have HU : Up h j1 := hu.trans hu1; dsimp only [putT, ev, Int.toNat_zero, Nat.sub_zero, Int.toNat_natCast,  gd_zero, gd_succ, Nat.zero_add, Nat.add_zero, Nat.reduceAdd, Nat.reduceMul, List.set_cons_zero, List.set_cons_succ, keep, List.contains_cons, List.contains_nil])
        | (refine cSeq ?_) | (refine cNorm ?_) | (refine cRet ?_) | (refine cExit ?_) | (refine W_reg rfl ?_) | (refine W_block ?_) | (refine W_ret ?_) | (refine W_skip ?_) | (refine W_exit ?_) | (refine bNorm ?_) | (refine bRet ?_) | (refine bExit ?_) | (refine bExitN rfl ?_)
        | (refine xMask ?_) | (refine xT ?_) | (refine xF ?_) | (refine xRet ?_) | (refine xNorm ?_)
        | (refine wSplit _ rfl (by (first | (simp only [go_sem, *]; (first | done | exact rfl)) | rfl)) ?_ ?_ <;> intro hb <;> (try simp only [beq_false, beq_true, Bool.not_true, Bool.not_false, Bool.not_eq_true', Bool.not_eq_false', decide_eq_false_iff_not, decide_eq_true_eq, bne_iff_ne, beq_iff_eq, Bool.true_eq, Bool.false_eq, Bool.not_not, Bool.and_eq_true, Bool.or_eq_true, Bool.bne_true, Bool.bne_false, bne_eq_false_iff_eq, beq_eq_false_iff_ne, ne_eq] at hb))
        | (refine W_cond _ (by (first | (simp only [go_sem, *]; (first | done | exact rfl)) | rfl)) ?_ ?_ <;> intro hb <;> (try simp only [beq_false, beq_true, Bool.not_true, Bool.not_false, Bool.not_eq_true', Bool.not_eq_false', decide_eq_false_iff_not, decide_eq_true_eq, bne_iff_ne, beq_iff_eq, Bool.true_eq, Bool.false_eq, Bool.not_not, Bool.and_eq_true, Bool.or_eq_true, Bool.bne_true, Bool.bne_false, bne_eq_false_iff_eq, beq_eq_false_iff_ne, ne_eq] at hb)))
      all_goals exact ⟨m - 1, by omega, k + 1, by omega, HU, e, by simp only [keep, List.contains_cons, List.contains_nil, Nat.reduceBEq, Bool.or_true, Bool.true_or, Bool.or_false, Bool.false_or, if_true, if_false, Bool.false_eq_true, beq_self_eq_true, Nat.zero_add, Nat.reduceAdd, eq_self]⟩
  · have d1 : ¬ (k : Int) < (L.length : Int) := by omega
    rw [List.drop_of_length_le (by omega), List.all_nil] at hr
    have e : (!(L.all p4)) = false := by rw [hr]; rfl
    clear hr
    repeat' (first
      | (refine wNil ?_) | (refine xPure ?_)
      | (refine xMk ?_; intro id hid; (try simp only [set_none_iff] at hid); refine mkDo ?_)
      | (refine xChk ?_) | (refine xChkF ?_) | (refine xSkip ?_)
      | (refine cSeq ?_) | (refine cNorm ?_) | (refine cRet ?_) | (refine cExit ?_) | (refine W_reg rfl ?_) | (refine W_block ?_) | (refine W_ret ?_) | (refine W_skip ?_) | (refine W_exit ?_) | (refine bNorm ?_) | (refine bRet ?_) | (refine bExit ?_) | (refine bExitN rfl ?_)
      | (refine xMask ?_) | (refine xT ?_) | (refine xF ?_) | (refine xRet ?_) | (refine xNorm ?_)
      | (refine wSplit _ rfl (by (first | (simp only [go_sem, *]; (first | done | exact rfl)) | rfl)) ?_ ?_ <;> intro hb <;> (try simp only [beq_false, beq_true, Bool.not_true, Bool.not_false, Bool.not_eq_true', Bool.not_eq_false', decide_eq_false_iff_not, decide_eq_true_eq, bne_iff_ne, beq_iff_eq, Bool.true_eq, Bool.false_eq, Bool.not_not, Bool.and_eq_true, Bool.or_eq_true, Bool.bne_true, Bool.bne_false, bne_eq_false_iff_eq, beq_eq_false_iff_ne, ne_eq] at hb))
      | (refine W_cond _ (by (first | (simp only [go_sem, *]; (first | done | exact rfl)) | rfl)) ?_ ?_ <;> intro hb <;> (try simp only [beq_false, beq_true, Bool.not_true, Bool.not_false, Bool.not_eq_true', Bool.not_eq_false', decide_eq_false_iff_not, decide_eq_true_eq, bne_iff_ne, beq_iff_eq, Bool.true_eq, Bool.false_eq, Bool.not_not, Bool.and_eq_true, Bool.or_eq_true, Bool.bne_true, Bool.bne_false, bne_eq_false_iff_eq, beq_eq_false_iff_ne, ne_eq] at hb)))
    all_goals exact ⟨-1, rfl, by rw [e]; rfl, hu⟩
/-- slices.ContainsFunc -/
theorem sp85 (S : AV) (L : List En) (h : AH) (hS : Le h S L) (hl : L.length ≤ 1000) : Sp T 85 [S, .func 84 [] []] h (fun v h' => v = .bool (!(L.all p4)) ∧ Up h h') := by
  refine Sp_of (fn := f85) rfl (show W T b85 [S, .func 84 [] [], .tup [], .tup [], .tup [], .tup [], .tup [], .tup [], .tup []] _ _ from ?_)
  unfold b85
  repeat' (first
    | (refine wNil ?_) | (refine xPure ?_)
    | (refine xMk ?_; intro id hid; (try simp only [set_none_iff] at hid); refine mkDo ?_)
    | (refine xChk ?_) | (refine xChkF ?_) | (refine xSkip ?_)
    | (refine xCall rfl rfl (sp89 S L _ hS hl) ?_; rintro v j ⟨r, rfl, hr, hu⟩; refine nTm ?_)
    | (refine cSeq ?_) | (refine cNorm ?_) | (refine cRet ?_) | (refine cExit ?_) | (refine W_reg rfl ?_) | (refine W_block ?_) | (refine W_ret ?_) | (refine W_skip ?_) | (refine W_exit ?_) | (refine bNorm ?_) | (refine bRet ?_) | (refine bExit ?_) | (refine bExitN rfl ?_)
    | (refine xMask ?_) | (refine xT ?_) | (refine xF ?_) | (refine xRet ?_) | (refine xNorm ?_)
    | (refine wSplit _ rfl (by (first | (simp only [go_sem, *]; (first | done | exact rfl)) | rfl)) ?_ ?_ <;> intro hb <;> (try simp only [beq_false, beq_true, Bool.not_true, Bool.not_false, Bool.not_eq_true', Bool.not_eq_false', decide_eq_false_iff_not, decide_eq_true_eq, bne_iff_ne, beq_iff_eq, Bool.true_eq, Bool.false_eq, Bool.not_not, Bool.and_eq_true, Bool.or_eq_true, Bool.bne_true, Bool.bne_false, bne_eq_false_iff_eq, beq_eq_false_iff_ne, ne_eq] at hb))
    | (refine W_cond _ (by (first | (simp only [go_sem, *]; (first | done | exact rfl)) | rfl)) ?_ ?_ <;> intro hb <;> (try simp only [beq_false, beq_true, Bool.not_true, Bool.not_false, Bool.not_eq_true', Bool.not_eq_false', decide_eq_false_iff_not, decide_eq_true_eq, bne_iff_ne, beq_iff_eq, Bool.true_eq, Bool.false_eq, Bool.not_not, Bool.and_eq_true, Bool.or_eq_true, Bool.bne_true, Bool.bne_false, bne_eq_false_iff_eq, beq_eq_false_iff_ne, ne_eq] at hb)))
  all_goals exact ⟨by rw [← hr]; rfl, hu⟩
def grB (x : List UInt8) (L : List En) : Bool := !(decide (x.length ≤ 131072 ∧ L.length ≤ 64) && L.all p4)
/-- great -/
theorem sp73 (k1 k2 k3 k4 : Int) (C : Nat) (n1 s1 s2 : Int) (ok : Bool) (x : List UInt8) (S : AV) (L : List En) (h : AH) (hS : Le h S L) (hl : L.length ≤ 1000) :
    Sp T 73 [.agg [.int .i64 k1, .int .i64 k2, .int .i64 k3, .int .i64 k4, .int .u64 (C : Int), .int .i64 n1, .int .i64 s1, .int .i64 s2, .bool ok, .str (bs x), S]] h (fun v h' => v = .bool (grB x L) ∧ Up h h') := by
  have hSl := hS.len
  have hu0 := Up.refl h
  have hSc : S.scalar = true := by rcases hS with ⟨rfl, rfl⟩ | ⟨i, _, rfl, _⟩ <;> rfl
  by_cases c1 : x.length ≤ 131072
  · have d1 : ¬ (x.length : Int) > 131072 := by omega
    by_cases c2 : L.length ≤ 64
    · have d2 : ¬ (L.length : Int) > 64 := by omega
      have e : grB x L = (!(L.all p4)) := by unfold grB; rw [decide_eq_true ⟨c1, c2⟩]; rfl
      rw [e]
      clear e
      refine Sp_of (fn := f73) rfl (show W T b73 [.agg [.int .i64 k1, .int .i64 k2, .int .i64 k3, .int .i64 k4, .int .u64 (C : Int), .int .i64 n1, .int .i64 s1, .int .i64 s2, .bool ok, .str (bs x), S], .tup [], .tup [], .tup [], .tup [], .tup [], .tup [], .tup [], .tup [], .tup [], .tup [], .tup [], .tup [], .tup [], .tup [], .tup [], .tup [], .tup [], .tup [], .tup []] _ _ from ?_)
      unfold b73
      repeat' (first
        | (refine wNil ?_) | (refine xPure ?_)
        | (refine xMk ?_; intro id hid; (try simp only [set_none_iff] at hid); have hz := hid; (repeat (replace hz := hz.2)); (try have := Up.none hu0 hz); refine mkDo ?_)
        | (refine xChk ?_) | (refine xChkF ?_) | (refine xSkip ?_)
        | (refine xCall rfl rfl (sp85 S L _ (hS.up (by repeat' (first | assumption | exact Up.refl _ | refine Up.new ?_ ?_))) hl) ?_; rintro v j ⟨rfl, hu⟩; have HU := Up.trans (show Up h _ from (by repeat' (first | assumption | exact Up.refl _ | refine Up.new ?_ ?_))) hu; refine nTm ?_)
        | (refine cSeq ?_) | (refine cNorm ?_) | (refine cRet ?_) | (refine cExit ?_) | (refine W_reg rfl ?_) | (refine W_block ?_) | (refine W_ret ?_) | (refine W_skip ?_) | (refine W_exit ?_) | (refine bNorm ?_) | (refine bRet ?_) | (refine bExit ?_) | (refine bExitN rfl ?_)
        | (refine xMask ?_) | (refine xT ?_) | (refine xF ?_) | (refine xRet ?_) | (refine xNorm ?_)
        | (refine wSplit _ rfl (by (first | (simp only [go_sem, *]; (first | done | exact rfl)) | rfl)) ?_ ?_ <;> intro hb <;> (try simp only [beq_false, beq_true, Bool.not_true, Bool.not_false, Bool.not_eq_true', Bool.not_eq_false', decide_eq_false_iff_not, decide_eq_true_eq, bne_iff_ne, beq_iff_eq, Bool.true_eq, Bool.false_eq, Bool.not_not, Bool.and_eq_true, Bool.or_eq_true, Bool.bne_true, Bool.bne_false, bne_eq_false_iff_eq, beq_eq_false_iff_ne, ne_eq] at hb))
        | (refine W_cond _ (by (first | (simp only [go_sem, *]; (first | done | exact rfl)) | rfl)) ?_ ?_ <;> intro hb <;> (try simp only [beq_false, beq_true, Bool.not_true, Bool.not_false, Bool.not_eq_true', Bool.not_eq_false', decide_eq_false_iff_not, decide_eq_true_eq, bne_iff_ne, beq_iff_eq, Bool.true_eq, Bool.false_eq, Bool.not_not, Bool.and_eq_true, Bool.or_eq_true, Bool.bne_true, Bool.bne_false, bne_eq_false_iff_eq, beq_eq_false_iff_ne, ne_eq] at hb)))
      all_goals exact ⟨rfl, HU⟩
    · have d2 : (L.length : Int) > 64 := by omega
      have e : grB x L = true := by unfold grB; rw [decide_eq_false (fun hh => c2 hh.2)]; rfl
      rw [e]
      clear e
      refine Sp_of (fn := f73) rfl (show W T b73 [.agg [.int .i64 k1, .int .i64 k2, .int .i64 k3, .int .i64 k4, .int .u64 (C : Int), .int .i64 n1, .int .i64 s1, .int .i64 s2, .bool ok, .str (bs x), S], .tup [], .tup [], .tup [], .tup [], .tup [], .tup [], .tup [], .tup [], .tup [], .tup [], .tup [], .tup [], .tup [], .tup [], .tup [], .tup [], .tup [], .tup [], .tup []] _ _ from ?_)
      unfold b73
      repeat' (first
        | (refine wNil ?_) | (refine xPure ?_)
        | (refine xMk ?_; intro id hid; (try simp only [set_none_iff] at hid); have hz := hid; (repeat (replace hz := hz.2)); (try have := Up.none hu0 hz); refine mkDo ?_)
        | (refine xChk ?_) | (refine xChkF ?_) | (refine xSkip ?_)
        | (refine cSeq ?_) | (refine cNorm ?_) | (refine cRet ?_) | (refine cExit ?_) | (refine W_reg rfl ?_) | (refine W_block ?_) | (refine W_ret ?_) | (refine W_skip ?_) | (refine W_exit ?_) | (refine bNorm ?_) | (refine bRet ?_) | (refine bExit ?_) | (refine bExitN rfl ?_)
        | (refine xMask ?_) | (refine xT ?_) | (refine xF ?_) | (refine xRet ?_) | (refine xNorm ?_)
        | (refine wSplit _ rfl (by (first | (simp only [go_sem, *]; (first | done | exact rfl)) | rfl)) ?_ ?_ <;> intro hb <;> (try simp only [beq_false, beq_true, Bool.not_true, Bool.not_false, Bool.not_eq_true', Bool.not_eq_false', decide_eq_false_iff_not, decide_eq_true_eq, bne_iff_ne, beq_iff_eq, Bool.true_eq, Bool.false_eq, Bool.not_not, Bool.and_eq_true, Bool.or_eq_true, Bool.bne_true, Bool.bne_false, bne_eq_false_iff_eq, beq_eq_false_iff_ne, ne_eq] at hb))
        | (refine W_cond _ (by (first | (simp only [go_sem, *]; (first | done | exact rfl)) | rfl)) ?_ ?_ <;> intro hb <;> (try simp only [beq_false, beq_true, Bool.not_true, Bool.not_false, Bool.not_eq_true', Bool.not_eq_false', decide_eq_false_iff_not, decide_eq_true_eq, bne_iff_ne, beq_iff_eq, Bool.true_eq, Bool.false_eq, Bool.not_not, Bool.and_eq_true, Bool.or_eq_true, Bool.bne_true, Bool.bne_false, bne_eq_false_iff_eq, beq_eq_false_iff_ne, ne_eq] at hb)))
      all_goals exact ⟨rfl, (by repeat' (first | assumption | exact Up.refl _ | refine Up.new ?_ ?_))⟩
  · have d1 : (x.length : Int) > 131072 := by omega
    have e : grB x L = true := by unfold grB; rw [decide_eq_false (fun hh => c1 hh.1)]; rfl
    rw [e]
    clear e
    refine Sp_of (fn := f73) rfl (show W T b73 [.agg [.int .i64 k1, .int .i64 k2, .int .i64 k3, .int .i64 k4, .int .u64 (C : Int), .int .i64 n1, .int .i64 s1, .int .i64 s2, .bool ok, .str (bs x), S], .tup [], .tup [], .tup [], .tup [], .tup [], .tup [], .tup [], .tup [], .tup [], .tup [], .tup [], .tup [], .tup [], .tup [], .tup [], .tup [], .tup [], .tup [], .tup []] _ _ from ?_)
    unfold b73
    repeat' (first
      | (refine wNil ?_) | (refine xPure ?_)
      | (refine xMk ?_; intro id hid; (try simp only [set_none_iff] at hid); have hz := hid; (repeat (replace hz := hz.2)); (try have := Up.none hu0 hz); refine mkDo ?_)
      | (refine xChk ?_) | (refine xChkF ?_) | (refine xSkip ?_)
      | (refine cSeq ?_) | (refine cNorm ?_) | (refine cRet ?_) | (refine cExit ?_) | (refine W_reg rfl ?_) | (refine W_block ?_) | (refine W_ret ?_) | (refine W_skip ?_) | (refine W_exit ?_) | (refine bNorm ?_) | (refine bRet ?_) | (refine bExit ?_) | (refine bExitN rfl ?_)
      | (refine xMask ?_) | (refine xT ?_) | (refine xF ?_) | (refine xRet ?_) | (refine xNorm ?_)
      | (refine wSplit _ rfl (by (first | (simp only [go_sem, *]; (first | done | exact rfl)) | rfl)) ?_ ?_ <;> intro hb <;> (try simp only [beq_false, beq_true, Bool.not_true, Bool.not_false, Bool.not_eq_true', Bool.not_eq_false', decide_eq_false_iff_not, decide_eq_true_eq, bne_iff_ne, beq_iff_eq, Bool.true_eq, Bool.false_eq, Bool.not_not, Bool.and_eq_true, Bool.or_eq_true, Bool.bne_true, Bool.bne_false, bne_eq_false_iff_eq, beq_eq_false_iff_ne, ne_eq] at hb))
      | (refine W_cond _ (by (first | (simp only [go_sem, *]; (first | done | exact rfl)) | rfl)) ?_ ?_ <;> intro hb <;> (try simp only [beq_false, beq_true, Bool.not_true, Bool.not_false, Bool.not_eq_true', Bool.not_eq_false', decide_eq_false_iff_not, decide_eq_true_eq, bne_iff_ne, beq_iff_eq, Bool.true_eq, Bool.false_eq, Bool.not_not, Bool.and_eq_true, Bool.or_eq_true, Bool.bne_true, Bool.bne_false, bne_eq_false_iff_eq, beq_eq_false_iff_ne, ne_eq] at hb)))
    all_goals exact ⟨rfl, (by repeat' (first | assumption | exact Up.refl _ | refine Up.new ?_ ?_))⟩
end Go.Proofs.YtgekngfnhhdamaaI
set_option linter.unusedVariables false
set_option linter.unusedSimpArgs false
set_option maxRecDepth 100000
set_option maxHeartbeats 4000000
namespace Go.Proofs.YtgekngfnhhdamaaI
open Go Go.Proofs.YtgekngfnhhdamaaM
attribute [local go_sem] aop ev fg_slc fg_slk fg_ptr fg_bool fg_int fg_str fg_iface fg_func fg_agg fg_tup fg_nils fg_nilp fg_nilI fg_nilF fg_und aboundsK alen_nils alen_slc alen_slk aslice_nils aslice_slc aslice_slk awanted abin aun aint aeqn aeqc aeqs apart abounds abnd amaxi amaxiGo cells_agg cells_slc cells_slk cells_ptr cells_bool cells_int cells_str cells_iface cells_func cells_tup cells_nils cells_nilp cells_nilI cells_nilF cells_und sc_slc sc_slk sc_ptr sc_bool sc_int sc_str sc_iface sc_func sc_nils sc_nilp sc_nilI sc_nilF gd_zero gd_succ List.all_cons List.all_nil Bool.and_self Bool.and_true Bool.true_and List.length_cons List.length_nil Option.map_some Option.some.injEq cell_same cell_ne cell_ne' cellsAt_same cellsAt_ne cellsAt_ne' put_same put_of set_same set_ne set_ne' List.getElem?_cons_zero List.getElem?_cons_succ if_true if_false and_self and_true true_and ne_eq not_true_eq_false not_false_eq_true decide_true decide_false Bool.false_eq_true Bool.true_eq_false beq_self_eq_true bne_self_eq_false beq_true beq_false Bool.not_true Bool.not_false List.map_cons List.map_nil putL List.set_cons_zero List.set_cons_succ afill Nat.zero_le Nat.le_refl Nat.zero_add Nat.add_zero List.drop_zero List.drop_succ_cons List.take_zero List.take_succ_cons Bool.not_eq_true Bool.not_eq_false decide_eq_true_eq decide_eq_false_iff_not Int.toNat_zero Nat.sub_zero Int.toNat_natCast Bool.bne_true Bool.bne_false AH.cell AH.cellsAt AH.put Nat.mul_one Nat.one_mul Int.natCast_nonneg List.length_set bs_append bs_size bs_toList bs_extract bs_get List.cons_append List.nil_append List.append_nil Nat.sub_zero bne_self_eq_false beq_self_eq_true azeros Int.le_refl
def risP : List En → Bool
  | [] => true
  | y :: L => ris y.1 L
theorem risP_eq {L : List En} (h : ∀ y ∈ L, 0 ≤ y.1) : risP L = ris (-1) L := by
  cases L with
  | nil => rfl
  | cons y L =>
    have := h y (by simp)
    show ris y.1 L = (decide ((-1 : Int) < y.1) && ris y.1 L)
    rw [decide_eq_true (by omega)]; rfl
theorem flat0 (L : List En) (k : Nat) (y1 : Int) (y2 : Nat) (y3 : Int) (y4 : List UInt8) (hy : L[k]? = some (y1, y2, y3, y4)) : (L.flatMap eM)[k * 4]? = some (.int .i64 y1) := by
  obtain ⟨_, g2⟩ := flat_get eMz hy []
  rw [List.append_nil] at g2
  have := congrArg (·[0]?) g2
  simpa [List.getElem?_take, List.getElem?_drop, eM] using this
/-- rising -/
theorem sp74 (k1 k2 k3 k4 : Int) (C : Nat) (n1 s1 s2 : Int) (ok : Bool) (x : List UInt8) (S : AV) (L : List En) (h : AH) (hS : Le h S L) (hl : L.length ≤ 1000) :
    Sp T 74 [.agg [.int .i64 k1, .int .i64 k2, .int .i64 k3, .int .i64 k4, .int .u64 (C : Int), .int .i64 n1, .int .i64 s1, .int .i64 s2, .bool ok, .str (bs x), S]] h (fun v h' => v = .bool (risP L) ∧ Up h h') := by
  have hSl := hS.len
  have hu0 := Up.refl h
  have hSc : S.scalar = true := by rcases hS with ⟨rfl, rfl⟩ | ⟨i, _, rfl, _⟩ <;> rfl
  refine Sp_of (fn := f74) rfl (show W T b74 [.agg [.int .i64 k1, .int .i64 k2, .int .i64 k3, .int .i64 k4, .int .u64 (C : Int), .int .i64 n1, .int .i64 s1, .int .i64 s2, .bool ok, .str (bs x), S], .tup [], .tup [], .tup [], .tup [], .tup [], .tup [], .tup [], .tup [], .tup [], .tup [], .tup [], .tup [], .tup [], .tup [], .tup [], .tup [], .tup [], .tup [], .tup [], .tup [], .tup [], .tup [], .tup [], .tup []] _ _ from ?_)
  unfold b74
  repeat' (first
    | (refine wNil ?_) | (refine xPure ?_)
    | (refine xMk ?_; intro id hid; (try simp only [set_none_iff] at hid); have hz := hid; (repeat (replace hz := hz.2)); (try have := Up.none hu0 hz); refine mkDo ?_)
    | (refine xChk ?_) | (refine xChkF ?_) | (refine xSkip ?_)
    | (refine cSeq ?_) | (refine cNorm ?_) | (refine cRet ?_) | (refine cExit ?_) | (refine W_reg rfl ?_) | (refine W_block ?_) | (refine W_ret ?_) | (refine W_skip ?_) | (refine W_exit ?_) | (refine bNorm ?_) | (refine bRet ?_) | (refine bExit ?_) | (refine bExitN rfl ?_)
    | (refine xMask ?_) | (refine xT ?_) | (refine xF ?_) | (refine xRet ?_) | (refine xNorm ?_)
    | (refine wSplit _ rfl (by (first | (simp only [go_sem, *]; (first | done | exact rfl)) | rfl)) ?_ ?_ <;> intro hb <;> (try simp only [beq_false, beq_true, Bool.not_true, Bool.not_false, Bool.not_eq_true', Bool.not_eq_false', decide_eq_false_iff_not, decide_eq_true_eq, bne_iff_ne, beq_iff_eq, Bool.true_eq, Bool.false_eq, Bool.not_not, Bool.and_eq_true, Bool.or_eq_true, Bool.bne_true, Bool.bne_false, bne_eq_false_iff_eq, beq_eq_false_iff_ne, ne_eq] at hb))
    | (refine W_cond _ (by (first | (simp only [go_sem, *]; (first | done | exact rfl)) | rfl)) ?_ ?_ <;> intro hb <;> (try simp only [beq_false, beq_true, Bool.not_true, Bool.not_false, Bool.not_eq_true', Bool.not_eq_false', decide_eq_false_iff_not, decide_eq_true_eq, bne_iff_ne, beq_iff_eq, Bool.true_eq, Bool.false_eq, Bool.not_not, Bool.and_eq_true, Bool.or_eq_true, Bool.bne_true, Bool.bne_false, bne_eq_false_iff_eq, beq_eq_false_iff_ne, ne_eq] at hb)))
  obtain ⟨b1, rfl⟩ : ∃ x, x = id := ⟨_, rfl⟩
  have hb := hz
  refine W_loop (fun m tm g => ∃ k : Nat, k + m = L.length ∧ Up h g ∧ g b1 = some ⟨true, [.int .i64 k1, .int .i64 k2, .int .i64 k3, .int .i64 k4, .int .u64 (C : Int), .int .i64 n1, .int .i64 s1, .int .i64 s2, .bool ok, .str (bs x), S]⟩ ∧ (L = [] ∨ ∃ y, L[k]? = some y ∧ risP L = ris y.1 (L.drop (k + 1))) ∧ keep [1, 3] 0 tm = [.und, .ptr b1 0, .und, .int .i64 ((k + 1 : Nat) : Int), .und, .und, .und, .und, .und, .und, .und, .und, .und, .und, .und, .und, .und, .und, .und, .und, .und, .und, .und, .und, .und]) L.length ⟨0, by omega, Up.new hu0 hb, set_same, ?_, rfl⟩ ?_
  · cases L with
    | nil => exact .inl rfl
    | cons y L => exact .inr ⟨y, rfl, rfl⟩
  clear hid hz this hu0
  rintro m tm g ⟨k, hk, hu, h1, hr, htm⟩
  refine cSeq (cMask (cNorm ?_))
  rw [htm]; clear htm
  by_cases hkl : k + 1 < L.length
  · have d1 : ((k + 1 : Nat) : Int) < (L.length : Int) := by omega
    have d2 : (0 : Int) ≤ (k : Int) := by omega
    have d3 : (k : Int) < (L.length : Int) := by omega
    have d4 : (0 : Int) ≤ ((k + 1 : Nat) : Int) := by omega
    have w1 : IntKind.i64.wrap (((k + 1 : Nat) : Int) + 1) = ((k + 1 + 1 : Nat) : Int) := by rw [wrap64 (by omega) (by omega)]; rfl
    have w2 : IntKind.i64.wrap (((k + 1 : Nat) : Int) - 1) = (k : Int) := by rw [wrap64 (by omega) (by omega)]; omega
    rcases hr with rfl | ⟨⟨z1, z2, z3, z4⟩, hz, hr⟩
    · simp at hkl
    obtain ⟨⟨y1, y2, y3, y4⟩, hy⟩ : ∃ y, L[k + 1]? = some y := ⟨_, List.getElem?_eq_getElem hkl⟩
    have hdr : L.drop (k + 1) = (y1, y2, y3, y4) :: L.drop (k + 1 + 1) := by rw [List.drop_eq_getElem_cons hkl, (List.getElem?_eq_some_iff.1 hy).2]
    rw [hdr, ris] at hr
    rcases hS with ⟨rfl, rfl⟩ | ⟨iL, ow, rfl, hL⟩
    · simp at hkl
    have hLg := hu _ _ hL
    have g3 : (L.flatMap eM)[(k + 1) * 4]? = some (.int .i64 y1) := flat0 L (k + 1) y1 y2 y3 y4 hy
    have g4 : (L.flatMap eM)[k * 4]? = some (.int .i64 z1) := flat0 L k z1 z2 z3 z4 hz
    have hy' := hy
    clear hdr hy hz
    by_cases hy1 : y1 ≤ z1
    · have e : risP L = false := by rw [hr, decide_eq_false (by simp only; omega)]; rfl
      rw [e]
      clear hr e
      repeat' (first
        | (refine wNil ?_) | (refine xPure ?_)
        | (refine xMk ?_; intro id hid; (try simp only [set_none_iff] at hid); have hz := hid; (repeat (replace hz := hz.2)); (try have := nei hLg hz); (try have := Up.none hu hz); refine mkDo ?_)
        | (refine xChk ?_) | (refine xChkF ?_) | (refine xSkip ?_)
        | (refine cSeq ?_) | (refine cNorm ?_) | (refine cRet ?_) | (refine cExit ?_) | (refine W_reg rfl ?_) | (refine W_block ?_) | (refine W_ret ?_) | (refine W_skip ?_) | (refine W_exit ?_) | (refine bNorm ?_) | (refine bRet ?_) | (refine bExit ?_) | (refine bExitN rfl ?_)
        | (refine xMask ?_) | (refine xT ?_) | (refine xF ?_) | (refine xRet ?_) | (refine xNorm ?_)
        | (refine wSplit _ rfl (by (first | (simp only [go_sem, *]; (first | done | exact rfl)) | rfl)) ?_ ?_ <;> intro hb <;> (try simp only [beq_false, beq_true, Bool.not_true, Bool.not_false, Bool.not_eq_true', Bool.not_eq_false', decide_eq_false_iff_not, decide_eq_true_eq, bne_iff_ne, beq_iff_eq, Bool.true_eq, Bool.false_eq, Bool.not_not, Bool.and_eq_true, Bool.or_eq_true, Bool.bne_true, Bool.bne_false, bne_eq_false_iff_eq, beq_eq_false_iff_ne, ne_eq] at hb))
        | (refine W_cond _ (by (first | (simp only [go_sem, *]; (first | done | exact rfl)) | rfl)) ?_ ?_ <;> intro hb <;> (try simp only [beq_false, beq_true, Bool.not_true, Bool.not_false, Bool.not_eq_true', Bool.not_eq_false', decide_eq_false_iff_not, decide_eq_true_eq, bne_iff_ne, beq_iff_eq, Bool.true_eq, Bool.false_eq, Bool.not_not, Bool.and_eq_true, Bool.or_eq_true, Bool.bne_true, Bool.bne_false, bne_eq_false_iff_eq, beq_eq_false_iff_ne, ne_eq] at hb)))
      all_goals exact ⟨rfl, hu⟩
    · have e : risP L = ris y1 (L.drop (k + 1 + 1)) := by rw [hr, decide_eq_true (by simp only; omega)]; rfl
      clear hr
      repeat' (first
        | (refine wNil ?_) | (refine xPure ?_)
        | (refine xMk ?_; intro id hid; (try simp only [set_none_iff] at hid); have hz := hid; (repeat (replace hz := hz.2)); (try have := nei hLg hz); (try have := Up.none hu hz); refine mkDo ?_)
        | (refine xChk ?_) | (refine xChkF ?_) | (refine xSkip ?_)
        | (refine cSeq ?_) | (refine cNorm ?_) | (refine cRet ?_) | (refine cExit ?_) | (refine W_reg rfl ?_) | (refine W_block ?_) | (refine W_ret ?_) | (refine W_skip ?_) | (refine W_exit ?_) | (refine bNorm ?_) | (refine bRet ?_) | (refine bExit ?_) | (refine bExitN rfl ?_)
        | (refine xMask ?_) | (refine xT ?_) | (refine xF ?_) | (refine xRet ?_) | (refine xNorm ?_)
        | (refine wSplit _ rfl (by (first | (simp only [go_sem, *]; (first | done | exact rfl)) | rfl)) ?_ ?_ <;> intro hb <;> (try simp only [beq_false, beq_true, Bool.not_true, Bool.not_false, Bool.not_eq_true', Bool.not_eq_false', decide_eq_false_iff_not, decide_eq_true_eq, bne_iff_ne, beq_iff_eq, Bool.true_eq, Bool.false_eq, Bool.not_not, Bool.and_eq_true, Bool.or_eq_true, Bool.bne_true, Bool.bne_false, bne_eq_false_iff_eq, beq_eq_false_iff_ne, ne_eq] at hb))
        | (refine W_cond _ (by (first | (simp only [go_sem, *]; (first | done | exact rfl)) | rfl)) ?_ ?_ <;> intro hb <;> (try simp only [beq_false, beq_true, Bool.not_true, Bool.not_false, Bool.not_eq_true', Bool.not_eq_false', decide_eq_false_iff_not, decide_eq_true_eq, bne_iff_ne, beq_iff_eq, Bool.true_eq, Bool.false_eq, Bool.not_not, Bool.and_eq_true, Bool.or_eq_true, Bool.bne_true, Bool.bne_false, bne_eq_false_iff_eq, beq_eq_false_iff_ne, ne_eq] at hb)))
      all_goals exact ⟨m - 1, by omega, k + 1, by omega, hu, h1, .inr ⟨_, hy', e⟩, by simp only [keep, List.contains_cons, List.contains_nil, Nat.reduceBEq, Bool.or_true, Bool.true_or, Bool.or_false, Bool.false_or, if_true, if_false, Bool.false_eq_true, beq_self_eq_true, Nat.zero_add, Nat.reduceAdd, eq_self]⟩
  · have d1 : ¬ ((k + 1 : Nat) : Int) < (L.length : Int) := by omega
    have e : risP L = true := by
      rcases hr with rfl | ⟨y, _, hr⟩
      · rfl
      · rw [hr, List.drop_of_length_le (by omega)]; rfl
    rw [e]
    clear hr e
    repeat' (first
      | (refine wNil ?_) | (refine xPure ?_)
      | (refine xMk ?_; intro id hid; (try simp only [set_none_iff] at hid); refine mkDo ?_)
      | (refine xChk ?_) | (refine xChkF ?_) | (refine xSkip ?_)
      | (refine cSeq ?_) | (refine cNorm ?_) | (refine cRet ?_) | (refine cExit ?_) | (refine W_reg rfl ?_) | (refine W_block ?_) | (refine W_ret ?_) | (refine W_skip ?_) | (refine W_exit ?_) | (refine bNorm ?_) | (refine bRet ?_) | (refine bExit ?_) | (refine bExitN rfl ?_)
      | (refine xMask ?_) | (refine xT ?_) | (refine xF ?_) | (refine xRet ?_) | (refine xNorm ?_)
      | (refine wSplit _ rfl (by (first | (simp only [go_sem, *]; (first | done | exact rfl)) | rfl)) ?_ ?_ <;> intro hb <;> (try simp only [beq_false, beq_true, Bool.not_true, Bool.not_false, Bool.not_eq_true', Bool.not_eq_false', decide_eq_false_iff_not, decide_eq_true_eq, bne_iff_ne, beq_iff_eq, Bool.true_eq, Bool.false_eq, Bool.not_not, Bool.and_eq_true, Bool.or_eq_true, Bool.bne_true, Bool.bne_false, bne_eq_false_iff_eq, beq_eq_false_iff_ne, ne_eq] at hb))
      | (refine W_cond _ (by (first | (simp only [go_sem, *]; (first | done | exact rfl)) | rfl)) ?_ ?_ <;> intro hb <;> (try simp only [beq_false, beq_true, Bool.not_true, Bool.not_false, Bool.not_eq_true', Bool.not_eq_false', decide_eq_false_iff_not, decide_eq_true_eq, bne_iff_ne, beq_iff_eq, Bool.true_eq, Bool.false_eq, Bool.not_not, Bool.and_eq_true, Bool.or_eq_true, Bool.bne_true, Bool.bne_false, bne_eq_false_iff_eq, beq_eq_false_iff_ne, ne_eq] at hb)))
    all_goals exact ⟨rfl, hu⟩
def rgB (k2 k3 k4 : Int) (C : Nat) (n1 s1 s2 : Int) (L : List En) : Bool := (decide (0 ≤ k2 ∧ k2 ≤ 11) && (decide (0 ≤ k3 ∧ k3 ≤ 11) && (decide (0 ≤ k4 ∧ k4 ≤ 3) && (snd C n1 && (L.all p2 && (decide (0 ≤ s1 ∧ s1 ≤ 1099511627776) && decide (0 ≤ s2 ∧ s2 ≤ 1099511627776)))))))
def L72c : ICode := (.seq (.block 0 (.loop (.seq (.mask [1, 28, 29, 30]) (.seq (.reg [(0, false)] r72_4)
 (.seq (.cond (.t 31) .skip
 (.exit 0))
 (.seq (.seq (.block 1 (.seq (.reg [(0, false), (1, false), (2, false), (3, false)] r72_5)
 (.seq (.reg [(0, false), (1, false), (2, false), (3, false), (4, false), (5, false), (6, false), (7, false), (8, false), (9, false)] r72_6)
 (.cond (.t 43) (.seq (.reg [(0, false)] r72_7)
 .ret)
 .skip)))) (.mask [1, 28, 29, 30]))
 (.reg [(0, false), (1, false)] r72_8))))))) (.mask [1]))
def R72c : ICode := (.seq (.reg [(0, false), (1, false), (2, false), (3, false), (4, false), (5, false), (6, false), (7, false), (8, false)] r72_9)
 .ret)
theorem loop72 (k1 k2 k3 k4 : Int) (C : Nat) (n1 s1 s2 : Int) (ok : Bool) (x : List UInt8) (S : AV) (L : List En) (h g : AH) (b1 : List Nat) (hS : Le h S L) (hl : L.length ≤ 1000) (hu : Up h g) (h1 : g b1 = some ⟨true, [.int .i64 k1, .int .i64 k2, .int .i64 k3, .int .i64 k4, .int .u64 (C : Int), .int .i64 n1, .int .i64 s1, .int .i64 s2, .bool ok, .str (bs x), S]⟩)
    (Q : AV → AH → Prop) (hQ : ∀ g', Up h g' → Q (.bool (L.all p2 && (decide (0 ≤ s1 ∧ s1 ≤ 1099511627776) && decide (0 ≤ s2 ∧ s2 ≤ 1099511627776)))) g') (tm : List AV) (htm : keep [1, 28, 29, 30] 0 tm = [.und, .ptr b1 0, .und, .und, .und, .und, .und, .und, .und, .und, .und, .und, .und, .und, .und, .und, .und, .und, .und, .und, .und, .und, .und, .und, .und, .und, .und, .und, S, .int .i64 (L.length : Int), .int .i64 0, .und, .und, .und, .und, .und, .und, .und, .und, .und, .und, .und, .und, .und, .und, .und, .und, .und, .und, .und, .und, .und, .und]) :
    W T L72c tm g (Then (fun tm' h' => W T R72c tm' h' (Rets f72 Q)) (Rets f72 Q)) := by
  unfold L72c
  refine cSeq ?_
  refine W_block ?_
  refine W_loop (fun m tm g => ∃ k : Nat, k + m = L.length ∧ Up h g ∧ g b1 = some ⟨true, [.int .i64 k1, .int .i64 k2, .int .i64 k3, .int .i64 k4, .int .u64 (C : Int), .int .i64 n1, .int .i64 s1, .int .i64 s2, .bool ok, .str (bs x), S]⟩ ∧ L.all p2 = (L.drop k).all p2 ∧ keep [1, 28, 29, 30] 0 tm = [.und, .ptr b1 0, .und, .und, .und, .und, .und, .und, .und, .und, .und, .und, .und, .und, .und, .und, .und, .und, .und, .und, .und, .und, .und, .und, .und, .und, .und, .und, S, .int .i64 (L.length : Int), .int .i64 (k : Int), .und, .und, .und, .und, .und, .und, .und, .und, .und, .und, .und, .und, .und, .und, .und, .und, .und, .und, .und, .und, .und, .und]) L.length ⟨0, by omega, hu, h1, by rw [List.drop_zero], htm⟩ ?_
  clear htm h1 hu
  rintro m tm g ⟨k, hk, hu, h1, hr, htm⟩
  refine cSeq (cMask (cNorm ?_))
  rw [htm]; clear htm
  by_cases hkl : k < L.length
  · have d1 : (k : Int) < (L.length : Int) := by omega
    have d2 : (0 : Int) ≤ (k : Int) := by omega
    have w1 : IntKind.i64.wrap ((k : Int) + 1) = ((k + 1 : Nat) : Int) := by rw [wrap64 (by omega) (by omega)]; rfl
    obtain ⟨⟨y1, y2, y3, y4⟩, hy⟩ : ∃ y, L[k]? = some y := ⟨_, List.getElem?_eq_getElem hkl⟩
    have hdr : L.drop k = (y1, y2, y3, y4) :: L.drop (k + 1) := by rw [List.drop_eq_getElem_cons hkl, (List.getElem?_eq_some_iff.1 hy).2]
    rw [hdr, List.all_cons] at hr
    rcases hS with ⟨rfl, rfl⟩ | ⟨iL, ow, rfl, hL⟩
    · simp at hkl
    have hLg := hu _ _ hL
    obtain ⟨g1, g2⟩ := flat_get eMz hy []
    rw [List.append_nil] at g1 g2
    simp only [eM] at g2
    clear hdr hy
    cases B1 : snd y2 y3 with
    | false =>
      have e : L.all p2 = false := by rw [hr]; unfold p2; rw [B1]; rfl
      rw [e] at hQ
      clear hr e
      repeat' (first
        | (refine wNil ?_) | (refine xPure ?_)
        | (refine xMk ?_; intro id hid; (try simp only [set_none_iff] at hid); have hz := hid; (repeat (replace hz := hz.2)); (try have := nei hLg hz); (try have := nei h1 hz); (try have := Up.none hu hz); refine mkDo ?_)
        | (refine xChk ?_) | (refine xChkF ?_) | (refine xSkip ?_)
        | (refine xCall rfl rfl (sp83 y2 y3 _) ?_; rintro v j3 ⟨rfl, hu3⟩; rw [B1]; have hid3 := hu3 _ _ set_same; have h13 := hu3 b1 _ (by simp only [set_ne (nei h1 hid)]; exact h1); have HU : Up h j3 := (fun z b e => hu3 z b (by simp only [set_ne (nei (hu z b e) hid)]; exact hu z b e)); refine nTm ?_)
        | (refine cSeq ?_) | (refine cNorm ?_) | (refine cRet ?_) | (refine cExit ?_) | (refine W_reg rfl ?_) | (refine W_block ?_) | (refine W_ret ?_) | (refine W_skip ?_) | (refine W_exit ?_) | (refine bNorm ?_) | (refine bRet ?_) | (refine bExit ?_) | (refine bExitN rfl ?_)
        | (refine xMask ?_) | (refine xT ?_) | (refine xF ?_) | (refine xRet ?_) | (refine xNorm ?_)
        | (refine wSplit _ rfl (by (first | (simp only [go_sem, *]; (first | done | exact rfl)) | rfl)) ?_ ?_ <;> intro hb <;> (try simp only [beq_false, beq_true, Bool.not_true, Bool.not_false, Bool.not_eq_true', Bool.not_eq_false', decide_eq_false_iff_not, decide_eq_true_eq, bne_iff_ne, beq_iff_eq, Bool.true_eq, Bool.false_eq, Bool.not_not, Bool.and_eq_true, Bool.or_eq_true, Bool.bne_true, Bool.bne_false, bne_eq_false_iff_eq, beq_eq_false_iff_ne, ne_eq] at hb))
        | (refine W_cond _ (by (first | (simp only [go_sem, *]; (first | done | exact rfl)) | rfl)) ?_ ?_ <;> intro hb <;> (try simp only [beq_false, beq_true, Bool.not_true, Bool.not_false, Bool.not_eq_true', Bool.not_eq_false', decide_eq_false_iff_not, decide_eq_true_eq, bne_iff_ne, beq_iff_eq, Bool.true_eq, Bool.false_eq, Bool.not_not, Bool.and_eq_true, Bool.or_eq_true, Bool.bne_true, Bool.bne_false, bne_eq_false_iff_eq, beq_eq_false_iff_ne, ne_eq] at hb)))
      all_goals exact hQ _ HU
    | true =>
      cases B2 : decide (0 ≤ y1 ∧ y1 ≤ 1099511627776) with
      | false =>
        have e : L.all p2 = false := by rw [hr]; unfold p2; rw [B1, B2]; rfl
        rw [e] at hQ
        clear hr e
        repeat' (first
          | (refine wNil ?_) | (refine xPure ?_)
          | (refine xMk ?_; intro id hid; (try simp only [set_none_iff] at hid); have hz := hid; (repeat (replace hz := hz.2)); (try have := nei hLg hz); (try have := nei h1 hz); (try have := Up.none hu hz); refine mkDo ?_)
          | (refine xChk ?_) | (refine xChkF ?_) | (refine xSkip ?_)
          | (refine xCall rfl rfl (sp83 y2 y3 _) ?_; rintro v j3 ⟨rfl, hu3⟩; rw [B1]; have hid3 := hu3 _ _ set_same; have h13 := hu3 b1 _ (by simp only [set_ne (nei h1 hid)]; exact h1); have HU : Up h j3 := (fun z b e => hu3 z b (by simp only [set_ne (nei (hu z b e) hid)]; exact hu z b e)); refine nTm ?_)
          | (refine xCall rfl rfl (sp82 y1 1099511627776 _) ?_; rintro v j4 ⟨rfl, hx⟩; cases hx; rw [B2]; refine nTm ?_)
          | (refine cSeq ?_) | (refine cNorm ?_) | (refine cRet ?_) | (refine cExit ?_) | (refine W_reg rfl ?_) | (refine W_block ?_) | (refine W_ret ?_) | (refine W_skip ?_) | (refine W_exit ?_) | (refine bNorm ?_) | (refine bRet ?_) | (refine bExit ?_) | (refine bExitN rfl ?_)
          | (refine xMask ?_) | (refine xT ?_) | (refine xF ?_) | (refine xRet ?_) | (refine xNorm ?_)
          | (refine wSplit _ rfl (by (first | (simp only [go_sem, *]; (first | done | exact rfl)) | rfl)) ?_ ?_ <;> intro hb <;> (try simp only [beq_false, beq_true, Bool.not_true, Bool.not_false, Bool.not_eq_true', Bool.not_eq_false', decide_eq_false_iff_not, decide_eq_true_eq, bne_iff_ne, beq_iff_eq, Bool.true_eq, Bool.false_eq, Bool.not_not, Bool.and_eq_true, Bool.or_eq_true, Bool.bne_true, Bool.bne_false, bne_eq_false_iff_eq, beq_eq_false_iff_ne, ne_eq] at hb))
          | (refine W_cond _ (by (first | (simp only [go_sem, *]; (first | done | exact rfl)) | rfl)) ?_ ?_ <;> intro hb <;> (try simp only [beq_false, beq_true, Bool.not_true, Bool.not_false, Bool.not_eq_true', Bool.not_eq_false', decide_eq_false_iff_not, decide_eq_true_eq, bne_iff_ne, beq_iff_eq, Bool.true_eq, Bool.false_eq, Bool.not_not, Bool.and_eq_true, Bool.or_eq_true, Bool.bne_true, Bool.bne_false, bne_eq_false_iff_eq, beq_eq_false_iff_ne, ne_eq] at hb)))
        all_goals exact hQ _ HU
      | true =>
        have hp : (p2 (y1, y2, y3, y4) && (L.drop (k + 1)).all p2) = (L.drop (k + 1)).all p2 := by unfold p2; rw [B1, B2]; rfl
        repeat' (first
          | (refine wNil ?_) | (refine xPure ?_)
          | (refine xMk ?_; intro id hid; (try simp only [set_none_iff] at hid); have hz := hid; (repeat (replace hz := hz.2)); (try have := nei hLg hz); (try have := nei h1 hz); (try have := Up.none hu hz); refine mkDo ?_)
          | (refine xChk ?_) | (refine xChkF ?_) | (refine xSkip ?_)
          | (refine xCall rfl rfl (sp83 y2 y3 _) ?_; rintro v j3 ⟨rfl, hu3⟩; rw [B1]; have hid3 := hu3 _ _ set_same; have h13 := hu3 b1 _ (by simp only [set_ne (nei h1 hid)]; exact h1); have HU : Up h j3 := (fun z b e => hu3 z b (by simp only [set_ne (nei (hu z b e) hid)]; exact hu z b e)); refine nTm ?_)
          | (refine xCall rfl rfl (sp82 y1 1099511627776 _) ?_; rintro v j4 ⟨rfl, hx⟩; cases hx; rw [B2]; refine nTm ?_)
          | (refine cSeq ?_) | (refine cNorm ?_) | (refine cRet ?_) | (refine cExit ?_) | (refine W_reg rfl ?_) | (refine W_block ?_) | (refine W_ret ?_) | (refine W_skip ?_) | (refine W_exit ?_) | (refine bNorm ?_) | (refine bRet ?_) | (refine bExit ?_) | (refine bExitN rfl ?_)
          | (refine xMask ?_) | (refine xT ?_) | (refine xF ?_) | (refine xRet ?_) | (refine xNorm ?_)
          | (refine wSplit _ rfl (by (first | (simp only [go_sem, *]; (first | done | exact rfl)) | rfl)) ?_ ?_ <;> intro hb <;> (try simp only [beq_false, beq_true, Bool.not_true, Bool.not_false, Bool.not_eq_true', Bool.not_eq_false', decide_eq_false_iff_not, decide_eq_true_eq, bne_iff_ne, beq_iff_eq, Bool.true_eq, Bool.false_eq, Bool.not_not, Bool.and_eq_true, Bool.or_eq_true, Bool.bne_true, Bool.bne_false, bne_eq_false_iff_eq, beq_eq_false_iff_ne, ne_eq] at hb))
          | (refine W_cond _ (by (first | (simp only [go_sem, *]; (first | done | exact rfl)) | rfl)) ?_ ?_ <;> intro hb <;> (try simp only [beq_false, beq_true, Bool.not_true, Bool.not_false, Bool.not_eq_true', Bool.not_eq_false', decide_eq_false_iff_not, decide_eq_true_eq, bne_iff_ne, beq_iff_eq, Bool.true_eq, Bool.false_eq, Bool.not_not, Bool.and_eq_true, Bool.or_eq_true, Bool.bne_true, Bool.bne_false, bne_eq_false_iff_eq, beq_eq_false_iff_ne, ne_eq] at hb)))
        all_goals exact ⟨m - 1, by omega, k + 1, by omega, HU, h13, by rw [hr]; exact hp, by simp only [keep, List.contains_cons, List.contains_nil, Nat.reduceBEq, Bool.or_true, Bool.true_or, Bool.or_false, Bool.false_or, if_true, if_false, Bool.false_eq_true, beq_self_eq_true, Nat.zero_add, Nat.reduceAdd, eq_self]⟩
  · have d1 : ¬ (k : Int) < (L.length : Int) := by omega
    rw [List.drop_of_length_le (by omega), List.all_nil] at hr
    rw [hr, Bool.true_and] at hQ
    unfold R72c
    cases B5 : decide (0 ≤ s1 ∧ s1 ≤ 1099511627776) with
    | false =>
      rw [B5, Bool.false_and] at hQ
      repeat' (first
        | (refine wNil ?_) | (refine xPure ?_)
        | (refine xMk ?_; intro id hid; (try simp only [set_none_iff] at hid); refine mkDo ?_)
        | (refine xChk ?_) | (refine xChkF ?_) | (refine xSkip ?_)
        | (refine xCall rfl rfl (sp82 s1 1099511627776 _) ?_; rintro v h' ⟨rfl, hx⟩; cases hx; rw [B5]; refine nTm ?_)
        | (refine xCall rfl rfl (sp82 s2 1099511627776 _) ?_; rintro v h' ⟨rfl, hx⟩; cases hx; refine nTm ?_)
        | (refine cSeq ?_) | (refine cNorm ?_) | (refine cRet ?_) | (refine cExit ?_) | (refine W_reg rfl ?_) | (refine W_block ?_) | (refine W_ret ?_) | (refine W_skip ?_) | (refine W_exit ?_) | (refine bNorm ?_) | (refine bRet ?_) | (refine bExit ?_) | (refine bExitN rfl ?_)
        | (refine xMask ?_) | (refine xT ?_) | (refine xF ?_) | (refine xRet ?_) | (refine xNorm ?_)
        | (refine wSplit _ rfl (by (first | (simp only [go_sem, *]; (first | done | exact rfl)) | rfl)) ?_ ?_ <;> intro hb <;> (try simp only [beq_false, beq_true, Bool.not_true, Bool.not_false, Bool.not_eq_true', Bool.not_eq_false', decide_eq_false_iff_not, decide_eq_true_eq, bne_iff_ne, beq_iff_eq, Bool.true_eq, Bool.false_eq, Bool.not_not, Bool.and_eq_true, Bool.or_eq_true, Bool.bne_true, Bool.bne_false, bne_eq_false_iff_eq, beq_eq_false_iff_ne, ne_eq] at hb))
        | (refine W_cond _ (by (first | (simp only [go_sem, *]; (first | done | exact rfl)) | rfl)) ?_ ?_ <;> intro hb <;> (try simp only [beq_false, beq_true, Bool.not_true, Bool.not_false, Bool.not_eq_true', Bool.not_eq_false', decide_eq_false_iff_not, decide_eq_true_eq, bne_iff_ne, beq_iff_eq, Bool.true_eq, Bool.false_eq, Bool.not_not, Bool.and_eq_true, Bool.or_eq_true, Bool.bne_true, Bool.bne_false, bne_eq_false_iff_eq, beq_eq_false_iff_ne, ne_eq] at hb)))
      all_goals exact hQ _ hu
    | true =>
      rw [B5, Bool.true_and] at hQ
      repeat' (first
        | (refine wNil ?_) | (refine xPure ?_)
        | (refine xMk ?_; intro id hid; (try simp only [set_none_iff] at hid); refine mkDo ?_)
        | (refine xChk ?_) | (refine xChkF ?_) | (refine xSkip ?_)
        | (refine xCall rfl rfl (sp82 s1 1099511627776 _) ?_; rintro v h' ⟨rfl, hx⟩; cases hx; rw [B5]; refine nTm ?_)
        | (refine xCall rfl rfl (sp82 s2 1099511627776 _) ?_; rintro v h' ⟨rfl, hx⟩; cases hx; refine nTm ?_)
        | (refine cSeq ?_) | (refine cNorm ?_) | (refine cRet ?_) | (refine cExit ?_) | (refine W_reg rfl ?_) | (refine W_block ?_) | (refine W_ret ?_) | (refine W_skip ?_) | (refine W_exit ?_) | (refine bNorm ?_) | (refine bRet ?_) | (refine bExit ?_) | (refine bExitN rfl ?_)
        | (refine xMask ?_) | (refine xT ?_) | (refine xF ?_) | (refine xRet ?_) | (refine xNorm ?_)
        | (refine wSplit _ rfl (by (first | (simp only [go_sem, *]; (first | done | exact rfl)) | rfl)) ?_ ?_ <;> intro hb <;> (try simp only [beq_false, beq_true, Bool.not_true, Bool.not_false, Bool.not_eq_true', Bool.not_eq_false', decide_eq_false_iff_not, decide_eq_true_eq, bne_iff_ne, beq_iff_eq, Bool.true_eq, Bool.false_eq, Bool.not_not, Bool.and_eq_true, Bool.or_eq_true, Bool.bne_true, Bool.bne_false, bne_eq_false_iff_eq, beq_eq_false_iff_ne, ne_eq] at hb))
        | (refine W_cond _ (by (first | (simp only [go_sem, *]; (first | done | exact rfl)) | rfl)) ?_ ?_ <;> intro hb <;> (try simp only [beq_false, beq_true, Bool.not_true, Bool.not_false, Bool.not_eq_true', Bool.not_eq_false', decide_eq_false_iff_not, decide_eq_true_eq, bne_iff_ne, beq_iff_eq, Bool.true_eq, Bool.false_eq, Bool.not_not, Bool.and_eq_true, Bool.or_eq_true, Bool.bne_true, Bool.bne_false, bne_eq_false_iff_eq, beq_eq_false_iff_ne, ne_eq] at hb)))
      all_goals exact hQ _ hu
/-- ranged -/
theorem sp72 (k1 k2 k3 k4 : Int) (C : Nat) (n1 s1 s2 : Int) (ok : Bool) (x : List UInt8) (S : AV) (L : List En) (h : AH) (hS : Le h S L) (hl : L.length ≤ 1000) :
    Sp T 72 [.agg [.int .i64 k1, .int .i64 k2, .int .i64 k3, .int .i64 k4, .int .u64 (C : Int), .int .i64 n1, .int .i64 s1, .int .i64 s2, .bool ok, .str (bs x), S]] h (fun v h' => v = .bool (rgB k2 k3 k4 C n1 s1 s2 L) ∧ Up h h') := by
  have hSl := hS.len
  have hSc : S.scalar = true := by rcases hS with ⟨rfl, rfl⟩ | ⟨i, _, rfl, _⟩ <;> rfl
  cases B0 : decide (0 ≤ k2 ∧ k2 ≤ 11) with
  | false =>
    have e : rgB k2 k3 k4 C n1 s1 s2 L = false := by unfold rgB; rw [B0]; simp only [Bool.true_and, Bool.false_and]
    rw [e]
    clear e
    refine Sp_of (fn := f72) rfl (show W T b72 [.agg [.int .i64 k1, .int .i64 k2, .int .i64 k3, .int .i64 k4, .int .u64 (C : Int), .int .i64 n1, .int .i64 s1, .int .i64 s2, .bool ok, .str (bs x), S], .tup [], .tup [], .tup [], .tup [], .tup [], .tup [], .tup [], .tup [], .tup [], .tup [], .tup [], .tup [], .tup [], .tup [], .tup [], .tup [], .tup [], .tup [], .tup [], .tup [], .tup [], .tup [], .tup [], .tup [], .tup [], .tup [], .tup [], .tup [], .tup [], .tup [], .tup [], .tup [], .tup [], .tup [], .tup [], .tup [], .tup [], .tup [], .tup [], .tup [], .tup [], .tup [], .tup [], .tup [], .tup [], .tup [], .tup [], .tup [], .tup [], .tup [], .tup [], .tup []] _ _ from ?_)
    unfold b72
    repeat' (first
      | (refine wNil ?_) | (refine xPure ?_)
      | (refine xMk ?_; intro id hid; (try simp only [set_none_iff] at hid); refine mkDo ?_)
      | (refine xChk ?_) | (refine xChkF ?_) | (refine xSkip ?_)
      | (refine xCall rfl rfl (sp82 k2 11 _) ?_; rintro v h' ⟨rfl, hx⟩; cases hx; rw [B0]; refine nTm ?_)
      | (refine cSeq ?_) | (refine cNorm ?_) | (refine cRet ?_) | (refine cExit ?_) | (refine W_reg rfl ?_) | (refine W_block ?_) | (refine W_ret ?_) | (refine W_skip ?_) | (refine W_exit ?_) | (refine bNorm ?_) | (refine bRet ?_) | (refine bExit ?_) | (refine bExitN rfl ?_)
      | (refine xMask ?_) | (refine xT ?_) | (refine xF ?_) | (refine xRet ?_) | (refine xNorm ?_)
      | (refine wSplit _ rfl (by (first | (simp only [go_sem, *]; (first | done | exact rfl)) | rfl)) ?_ ?_ <;> intro hb <;> (try simp only [beq_false, beq_true, Bool.not_true, Bool.not_false, Bool.not_eq_true', Bool.not_eq_false', decide_eq_false_iff_not, decide_eq_true_eq, bne_iff_ne, beq_iff_eq, Bool.true_eq, Bool.false_eq, Bool.not_not, Bool.and_eq_true, Bool.or_eq_true, Bool.bne_true, Bool.bne_false, bne_eq_false_iff_eq, beq_eq_false_iff_ne, ne_eq] at hb))
      | (refine W_cond _ (by (first | (simp only [go_sem, *]; (first | done | exact rfl)) | rfl)) ?_ ?_ <;> intro hb <;> (try simp only [beq_false, beq_true, Bool.not_true, Bool.not_false, Bool.not_eq_true', Bool.not_eq_false', decide_eq_false_iff_not, decide_eq_true_eq, bne_iff_ne, beq_iff_eq, Bool.true_eq, Bool.false_eq, Bool.not_not, Bool.and_eq_true, Bool.or_eq_true, Bool.bne_true, Bool.bne_false, bne_eq_false_iff_eq, beq_eq_false_iff_ne, ne_eq] at hb)))
    all_goals exact ⟨rfl, Up.new (Up.refl h) (by assumption)⟩
  | true =>
    cases B1 : decide (0 ≤ k3 ∧ k3 ≤ 11) with
    | false =>
      have e : rgB k2 k3 k4 C n1 s1 s2 L = false := by unfold rgB; rw [B0, B1]; simp only [Bool.true_and, Bool.false_and]
      rw [e]
      clear e
      refine Sp_of (fn := f72) rfl (show W T b72 [.agg [.int .i64 k1, .int .i64 k2, .int .i64 k3, .int .i64 k4, .int .u64 (C : Int), .int .i64 n1, .int .i64 s1, .int .i64 s2, .bool ok, .str (bs x), S], .tup [], .tup [], .tup [], .tup [], .tup [], .tup [], .tup [], .tup [], .tup [], .tup [], .tup [], .tup [], .tup [], .tup [], .tup [], .tup [], .tup [], .tup [], .tup [], .tup [], .tup [], .tup [], .tup [], .tup [], .tup [], .tup [], .tup [], .tup [], .tup [], .tup [], .tup [], .tup [], .tup [], .tup [], .tup [], .tup [], .tup [], .tup [], .tup [], .tup [], .tup [], .tup [], .tup [], .tup [], .tup [], .tup [], .tup [], .tup [], .tup [], .tup [], .tup [], .tup []] _ _ from ?_)
      unfold b72
      repeat' (first
        | (refine wNil ?_) | (refine xPure ?_)
        | (refine xMk ?_; intro id hid; (try simp only [set_none_iff] at hid); refine mkDo ?_)
        | (refine xChk ?_) | (refine xChkF ?_) | (refine xSkip ?_)
        | (refine xCall rfl rfl (sp82 k2 11 _) ?_; rintro v h' ⟨rfl, hx⟩; cases hx; rw [B0]; refine nTm ?_)
        | (refine xCall rfl rfl (sp82 k3 11 _) ?_; rintro v h' ⟨rfl, hx⟩; cases hx; rw [B1]; refine nTm ?_)
        | (refine cSeq ?_) | (refine cNorm ?_) | (refine cRet ?_) | (refine cExit ?_) | (refine W_reg rfl ?_) | (refine W_block ?_) | (refine W_ret ?_) | (refine W_skip ?_) | (refine W_exit ?_) | (refine bNorm ?_) | (refine bRet ?_) | (refine bExit ?_) | (refine bExitN rfl ?_)
        | (refine xMask ?_) | (refine xT ?_) | (refine xF ?_) | (refine xRet ?_) | (refine xNorm ?_)
        | (refine wSplit _ rfl (by (first | (simp only [go_sem, *]; (first | done | exact rfl)) | rfl)) ?_ ?_ <;> intro hb <;> (try simp only [beq_false, beq_true, Bool.not_true, Bool.not_false, Bool.not_eq_true', Bool.not_eq_false', decide_eq_false_iff_not, decide_eq_true_eq, bne_iff_ne, beq_iff_eq, Bool.true_eq, Bool.false_eq, Bool.not_not, Bool.and_eq_true, Bool.or_eq_true, Bool.bne_true, Bool.bne_false, bne_eq_false_iff_eq, beq_eq_false_iff_ne, ne_eq] at hb))
        | (refine W_cond _ (by (first | (simp only [go_sem, *]; (first | done | exact rfl)) | rfl)) ?_ ?_ <;> intro hb <;> (try simp only [beq_false, beq_true, Bool.not_true, Bool.not_false, Bool.not_eq_true', Bool.not_eq_false', decide_eq_false_iff_not, decide_eq_true_eq, bne_iff_ne, beq_iff_eq, Bool.true_eq, Bool.false_eq, Bool.not_not, Bool.and_eq_true, Bool.or_eq_true, Bool.bne_true, Bool.bne_false, bne_eq_false_iff_eq, beq_eq_false_iff_ne, ne_eq] at hb)))
      all_goals exact ⟨rfl, Up.new (Up.refl h) (by assumption)⟩
    | true =>
      cases B2 : decide (0 ≤ k4 ∧ k4 ≤ 3) with
      | false =>
        have e : rgB k2 k3 k4 C n1 s1 s2 L = false := by unfold rgB; rw [B0, B1, B2]; simp only [Bool.true_and, Bool.false_and]
        rw [e]
        clear e
        refine Sp_of (fn := f72) rfl (show W T b72 [.agg [.int .i64 k1, .int .i64 k2, .int .i64 k3, .int .i64 k4, .int .u64 (C : Int), .int .i64 n1, .int .i64 s1, .int .i64 s2, .bool ok, .str (bs x), S], .tup [], .tup [], .tup [], .tup [], .tup [], .tup [], .tup [], .tup [], .tup [], .tup [], .tup [], .tup [], .tup [], .tup [], .tup [], .tup [], .tup [], .tup [], .tup [], .tup [], .tup [], .tup [], .tup [], .tup [], .tup [], .tup [], .tup [], .tup [], .tup [], .tup [], .tup [], .tup [], .tup [], .tup [], .tup [], .tup [], .tup [], .tup [], .tup [], .tup [], .tup [], .tup [], .tup [], .tup [], .tup [], .tup [], .tup [], .tup [], .tup [], .tup [], .tup [], .tup []] _ _ from ?_)
        unfold b72
        repeat' (first
          | (refine wNil ?_) | (refine xPure ?_)
          | (refine xMk ?_; intro id hid; (try simp only [set_none_iff] at hid); refine mkDo ?_)
          | (refine xChk ?_) | (refine xChkF ?_) | (refine xSkip ?_)
          | (refine xCall rfl rfl (sp82 k2 11 _) ?_; rintro v h' ⟨rfl, hx⟩; cases hx; rw [B0]; refine nTm ?_)
          | (refine xCall rfl rfl (sp82 k3 11 _) ?_; rintro v h' ⟨rfl, hx⟩; cases hx; rw [B1]; refine nTm ?_)
          | (refine xCall rfl rfl (sp82 k4 3 _) ?_; rintro v h' ⟨rfl, hx⟩; cases hx; rw [B2]; refine nTm ?_)
          | (refine cSeq ?_) | (refine cNorm ?_) | (refine cRet ?_) | (refine cExit ?_) | (refine W_reg rfl ?_) | (refine W_block ?_) | (refine W_ret ?_) | (refine W_skip ?_) | (refine W_exit ?_) | (refine bNorm ?_) | (refine bRet ?_) | (refine bExit ?_) | (refine bExitN rfl ?_)
          | (refine xMask ?_) | (refine xT ?_) | (refine xF ?_) | (refine xRet ?_) | (refine xNorm ?_)
          | (refine wSplit _ rfl (by (first | (simp only [go_sem, *]; (first | done | exact rfl)) | rfl)) ?_ ?_ <;> intro hb <;> (try simp only [beq_false, beq_true, Bool.not_true, Bool.not_false, Bool.not_eq_true', Bool.not_eq_false', decide_eq_false_iff_not, decide_eq_true_eq, bne_iff_ne, beq_iff_eq, Bool.true_eq, Bool.false_eq, Bool.not_not, Bool.and_eq_true, Bool.or_eq_true, Bool.bne_true, Bool.bne_false, bne_eq_false_iff_eq, beq_eq_false_iff_ne, ne_eq] at hb))
          | (refine W_cond _ (by (first | (simp only [go_sem, *]; (first | done | exact rfl)) | rfl)) ?_ ?_ <;> intro hb <;> (try simp only [beq_false, beq_true, Bool.not_true, Bool.not_false, Bool.not_eq_true', Bool.not_eq_false', decide_eq_false_iff_not, decide_eq_true_eq, bne_iff_ne, beq_iff_eq, Bool.true_eq, Bool.false_eq, Bool.not_not, Bool.and_eq_true, Bool.or_eq_true, Bool.bne_true, Bool.bne_false, bne_eq_false_iff_eq, beq_eq_false_iff_ne, ne_eq] at hb)))
        all_goals exact ⟨rfl, Up.new (Up.refl h) (by assumption)⟩
      | true =>
        cases B3 : snd C n1 with
        | false =>
          have e : rgB k2 k3 k4 C n1 s1 s2 L = false := by unfold rgB; rw [B0, B1, B2, B3]; simp only [Bool.true_and, Bool.false_and]
          rw [e]
          clear e
          refine Sp_of (fn := f72) rfl (show W T b72 [.agg [.int .i64 k1, .int .i64 k2, .int .i64 k3, .int .i64 k4, .int .u64 (C : Int), .int .i64 n1, .int .i64 s1, .int .i64 s2, .bool ok, .str (bs x), S], .tup [], .tup [], .tup [], .tup [], .tup [], .tup [], .tup [], .tup [], .tup [], .tup [], .tup [], .tup [], .tup [], .tup [], .tup [], .tup [], .tup [], .tup [], .tup [], .tup [], .tup [], .tup [], .tup [], .tup [], .tup [], .tup [], .tup [], .tup [], .tup [], .tup [], .tup [], .tup [], .tup [], .tup [], .tup [], .tup [], .tup [], .tup [], .tup [], .tup [], .tup [], .tup [], .tup [], .tup [], .tup [], .tup [], .tup [], .tup [], .tup [], .tup [], .tup [], .tup []] _ _ from ?_)
          unfold b72
          repeat' (first
            | (refine wNil ?_) | (refine xPure ?_)
            | (refine xMk ?_; intro id hid; (try simp only [set_none_iff] at hid); refine mkDo ?_)
            | (refine xChk ?_) | (refine xChkF ?_) | (refine xSkip ?_)
            | (refine xCall rfl rfl (sp82 k2 11 _) ?_; rintro v h' ⟨rfl, hx⟩; cases hx; rw [B0]; refine nTm ?_)
            | (refine xCall rfl rfl (sp82 k3 11 _) ?_; rintro v h' ⟨rfl, hx⟩; cases hx; rw [B1]; refine nTm ?_)
            | (refine xCall rfl rfl (sp82 k4 3 _) ?_; rintro v h' ⟨rfl, hx⟩; cases hx; rw [B2]; refine nTm ?_)
            | (refine xCall rfl rfl (sp83 C n1 _) ?_; rintro v j3 ⟨rfl, hu3⟩; rw [B3]; have hb3 := hu3 _ _ set_same; have HU : Up h j3 := (fun z b e => hu3 z b (by rw [set_ne (nei e hid)]; exact e)); refine nTm ?_)
            | (refine cSeq ?_) | (refine cNorm ?_) | (refine cRet ?_) | (refine cExit ?_) | (refine W_reg rfl ?_) | (refine W_block ?_) | (refine W_ret ?_) | (refine W_skip ?_) | (refine W_exit ?_) | (refine bNorm ?_) | (refine bRet ?_) | (refine bExit ?_) | (refine bExitN rfl ?_)
            | (refine xMask ?_) | (refine xT ?_) | (refine xF ?_) | (refine xRet ?_) | (refine xNorm ?_)
            | (refine wSplit _ rfl (by (first | (simp only [go_sem, *]; (first | done | exact rfl)) | rfl)) ?_ ?_ <;> intro hb <;> (try simp only [beq_false, beq_true, Bool.not_true, Bool.not_false, Bool.not_eq_true', Bool.not_eq_false', decide_eq_false_iff_not, decide_eq_true_eq, bne_iff_ne, beq_iff_eq, Bool.true_eq, Bool.false_eq, Bool.not_not, Bool.and_eq_true, Bool.or_eq_true, Bool.bne_true, Bool.bne_false, bne_eq_false_iff_eq, beq_eq_false_iff_ne, ne_eq] at hb))
            | (refine W_cond _ (by (first | (simp only [go_sem, *]; (first | done | exact rfl)) | rfl)) ?_ ?_ <;> intro hb <;> (try simp only [beq_false, beq_true, Bool.not_true, Bool.not_false, Bool.not_eq_true', Bool.not_eq_false', decide_eq_false_iff_not, decide_eq_true_eq, bne_iff_ne, beq_iff_eq, Bool.true_eq, Bool.false_eq, Bool.not_not, Bool.and_eq_true, Bool.or_eq_true, Bool.bne_true, Bool.bne_false, bne_eq_false_iff_eq, beq_eq_false_iff_ne, ne_eq] at hb)))
          all_goals exact ⟨rfl, HU⟩
        | true =>
          have e : rgB k2 k3 k4 C n1 s1 s2 L = (L.all p2 && (decide (0 ≤ s1 ∧ s1 ≤ 1099511627776) && decide (0 ≤ s2 ∧ s2 ≤ 1099511627776))) := by unfold rgB; rw [B0, B1, B2, B3]; simp only [Bool.true_and]
          rw [e]
          clear e
          refine Sp_of (fn := f72) rfl (show W T b72 [.agg [.int .i64 k1, .int .i64 k2, .int .i64 k3, .int .i64 k4, .int .u64 (C : Int), .int .i64 n1, .int .i64 s1, .int .i64 s2, .bool ok, .str (bs x), S], .tup [], .tup [], .tup [], .tup [], .tup [], .tup [], .tup [], .tup [], .tup [], .tup [], .tup [], .tup [], .tup [], .tup [], .tup [], .tup [], .tup [], .tup [], .tup [], .tup [], .tup [], .tup [], .tup [], .tup [], .tup [], .tup [], .tup [], .tup [], .tup [], .tup [], .tup [], .tup [], .tup [], .tup [], .tup [], .tup [], .tup [], .tup [], .tup [], .tup [], .tup [], .tup [], .tup [], .tup [], .tup [], .tup [], .tup [], .tup [], .tup [], .tup [], .tup [], .tup []] _ _ from ?_)
          unfold b72
          repeat' (first
            | (refine wNil ?_) | (refine xPure ?_)
            | (refine xMk ?_; intro id hid; (try simp only [set_none_iff] at hid); refine mkDo ?_)
            | (refine xChk ?_) | (refine xChkF ?_) | (refine xSkip ?_)
            | (refine xCall rfl rfl (sp82 k2 11 _) ?_; rintro v h' ⟨rfl, hx⟩; cases hx; rw [B0]; refine nTm ?_)
            | (refine xCall rfl rfl (sp82 k3 11 _) ?_; rintro v h' ⟨rfl, hx⟩; cases hx; rw [B1]; refine nTm ?_)
            | (refine xCall rfl rfl (sp82 k4 3 _) ?_; rintro v h' ⟨rfl, hx⟩; cases hx; rw [B2]; refine nTm ?_)
            | (refine xCall rfl rfl (sp83 C n1 _) ?_; rintro v j3 ⟨rfl, hu3⟩; rw [B3]; have hb3 := hu3 _ _ set_same; have HU : Up h j3 := (fun z b e => hu3 z b (by rw [set_ne (nei e hid)]; exact e)); refine nTm ?_)
            | (exact loop72 k1 k2 k3 k4 C n1 s1 s2 ok x S L h j3 id hS hl HU hb3 _ (fun g' hu' => ⟨rfl, hu'⟩) _ rfl)
            | (refine cSeq ?_) | (refine cNorm ?_) | (refine cRet ?_) | (refine cExit ?_) | (refine W_reg rfl ?_) | (refine W_block ?_) | (refine W_ret ?_) | (refine W_skip ?_) | (refine W_exit ?_) | (refine bNorm ?_) | (refine bRet ?_) | (refine bExit ?_) | (refine bExitN rfl ?_)
            | (refine xMask ?_) | (refine xT ?_) | (refine xF ?_) | (refine xRet ?_) | (refine xNorm ?_)
            | (refine wSplit _ rfl (by (first | (simp only [go_sem, *]; (first | done | exact rfl)) | rfl)) ?_ ?_ <;> intro hb <;> (try simp only [beq_false, beq_true, Bool.not_true, Bool.not_false, Bool.not_eq_true', Bool.not_eq_false', decide_eq_false_iff_not, decide_eq_true_eq, bne_iff_ne, beq_iff_eq, Bool.true_eq, Bool.false_eq, Bool.not_not, Bool.and_eq_true, Bool.or_eq_true, Bool.bne_true, Bool.bne_false, bne_eq_false_iff_eq, beq_eq_false_iff_ne, ne_eq] at hb))
            | (refine W_cond _ (by (first | (simp only [go_sem, *]; (first | done | exact rfl)) | rfl)) ?_ ?_ <;> intro hb <;> (try simp only [beq_false, beq_true, Bool.not_true, Bool.not_false, Bool.not_eq_true', Bool.not_eq_false', decide_eq_false_iff_not, decide_eq_true_eq, bne_iff_ne, beq_iff_eq, Bool.true_eq, Bool.false_eq, Bool.not_not, Bool.and_eq_true, Bool.or_eq_true, Bool.bne_true, Bool.bne_false, bne_eq_false_iff_eq, beq_eq_false_iff_ne, ne_eq] at hb)))
end Go.Proofs.YtgekngfnhhdamaaI
set_option linter.unusedVariables false
set_option linter.unusedSimpArgs false
set_option maxRecDepth 100000
set_option maxHeartbeats 4000000
namespace Go.Proofs.YtgekngfnhhdamaaI
open Go Go.Proofs.YtgekngfnhhdamaaM
attribute [local go_sem] aop ev fg_slc fg_slk fg_ptr fg_bool fg_int fg_str fg_iface fg_func fg_agg fg_tup fg_nils fg_nilp fg_nilI fg_nilF fg_und aboundsK alen_nils alen_slc alen_slk aslice_nils aslice_slc aslice_slk awanted abin aun aint aeqn aeqc aeqs apart abounds abnd amaxi amaxiGo cells_agg cells_slc cells_slk cells_ptr cells_bool cells_int cells_str cells_iface cells_func cells_tup cells_nils cells_nilp cells_nilI cells_nilF cells_und sc_slc sc_slk sc_ptr sc_bool sc_int sc_str sc_iface sc_func sc_nils sc_nilp sc_nilI sc_nilF gd_zero gd_succ List.all_cons List.all_nil Bool.and_self Bool.and_true Bool.true_and List.length_cons List.length_nil Option.map_some Option.some.injEq cell_same cell_ne cell_ne' cellsAt_same cellsAt_ne cellsAt_ne' put_same put_of set_same set_ne set_ne' List.getElem?_cons_zero List.getElem?_cons_succ if_true if_false and_self and_true true_and ne_eq not_true_eq_false not_false_eq_true decide_true decide_false Bool.false_eq_true Bool.true_eq_false beq_self_eq_true bne_self_eq_false beq_true beq_false Bool.not_true Bool.not_false List.map_cons List.map_nil putL List.set_cons_zero List.set_cons_succ afill Nat.zero_le Nat.le_refl Nat.zero_add Nat.add_zero List.drop_zero List.drop_succ_cons List.take_zero List.take_succ_cons Bool.not_eq_true Bool.not_eq_false decide_eq_true_eq decide_eq_false_iff_not Int.toNat_zero Nat.sub_zero Int.toNat_natCast Bool.bne_true Bool.bne_false AH.cell AH.cellsAt AH.put Nat.mul_one Nat.one_mul Int.natCast_nonneg List.length_set bs_append bs_size bs_toList bs_extract bs_get List.cons_append List.nil_append List.append_nil Nat.sub_zero bne_self_eq_false beq_self_eq_true azeros Int.le_refl
theorem chk_eq (k1 k2 k3 k4 : Int) (C : Nat) (n1 s1 s2 : Int) (ok : Bool) (x : List UInt8) (L : List En) : chk k1 k2 k3 k4 C n1 s1 s2 x L = (if decide (1 ≤ k1 ∧ k1 ≤ 13) then (if rgB k2 k3 k4 C n1 s1 s2 L then (if grB x L then 6 else if risP L then 0 else 4) else 2) else 1) := by
  unfold chk rgB r1 r2 r3 r4 grB
  cases decide (1 ≤ k1 ∧ k1 ≤ 13)
  · rfl
  cases decide (0 ≤ k2 ∧ k2 ≤ 11)
  · rfl
  cases decide (0 ≤ k3 ∧ k3 ≤ 11)
  · rfl
  cases decide (0 ≤ k4 ∧ k4 ≤ 3)
  · rfl
  cases snd C n1
  · rfl
  cases hp : L.all p2
  · cases decide (0 ≤ s1 ∧ s1 ≤ 1099511627776) <;> cases decide (0 ≤ s2 ∧ s2 ≤ 1099511627776) <;> rfl
  cases decide (0 ≤ s1 ∧ s1 ≤ 1099511627776)
  · rfl
  cases decide (0 ≤ s2 ∧ s2 ≤ 1099511627776)
  · rfl
  rw [risP_eq (fun y hy => by
    have := List.all_eq_true.1 hp y hy
    unfold p2 at this
    rw [Bool.and_eq_true] at this
    exact (of_decide_eq_true this.2).1)]
  by_cases c : x.length ≤ 131072 ∧ L.length ≤ 64
  · rw [decide_eq_true c, if_pos c]
    cases L.all p4 <;> rfl
  · rw [decide_eq_false c, if_neg c]; rfl
/-- Check -/
theorem sp49 (k1 k2 k3 k4 : Int) (C : Nat) (n1 s1 s2 : Int) (ok : Bool) (x : List UInt8) (S : AV) (L : List En) (h : AH) (hS : Le h S L) (hl : L.length ≤ 1000) :
    Sp T 49 [.agg [.int .i64 k1, .int .i64 k2, .int .i64 k3, .int .i64 k4, .int .u64 (C : Int), .int .i64 n1, .int .i64 s1, .int .i64 s2, .bool ok, .str (bs x), S]] h (fun v h' => v = .int .i64 (chk k1 k2 k3 k4 C n1 s1 s2 x L) ∧ Up h h') := by
  have hu0 := Up.refl h
  have hSc : S.scalar = true := by rcases hS with ⟨rfl, rfl⟩ | ⟨i, _, rfl, _⟩ <;> rfl
  by_cases c1 : k1 < 1
  · have B0 := decide_eq_false (show ¬ (1 ≤ k1 ∧ k1 ≤ 13) by omega)
    have e : chk k1 k2 k3 k4 C n1 s1 s2 x L = 1 := by rw [chk_eq k1 k2 k3 k4 C n1 s1 s2 ok, B0]; rfl
    rw [e]
    clear e
    refine Sp_of (fn := f49) rfl (show W T b49 [.agg [.int .i64 k1, .int .i64 k2, .int .i64 k3, .int .i64 k4, .int .u64 (C : Int), .int .i64 n1, .int .i64 s1, .int .i64 s2, .bool ok, .str (bs x), S], .tup [], .tup [], .tup [], .tup [], .tup [], .tup [], .tup [], .tup [], .tup [], .tup [], .tup [], .tup [], .tup [], .tup [], .tup [], .tup [], .tup [], .tup [], .tup [], .tup [], .tup [], .tup []] _ _ from ?_)
    unfold b49
    repeat' (first
      | (refine wNil ?_) | (refine xPure ?_)
      | (refine xMk ?_; intro id hid; (try simp only [set_none_iff] at hid); have hz := hid; (repeat (replace hz := hz.2)); (try have := Up.none hu0 hz); refine mkDo ?_)
      | (refine xChk ?_) | (refine xChkF ?_) | (refine xSkip ?_)
      | (refine cSeq ?_) | (refine cNorm ?_) | (refine cRet ?_) | (refine cExit ?_) | (refine W_reg rfl ?_) | (refine W_block ?_) | (refine W_ret ?_) | (refine W_skip ?_) | (refine W_exit ?_) | (refine bNorm ?_) | (refine bRet ?_) | (refine bExit ?_) | (refine bExitN rfl ?_)
      | (refine xMask ?_) | (refine xT ?_) | (refine xF ?_) | (refine xRet ?_) | (refine xNorm ?_)
      | (refine wSplit _ rfl (by (first | (simp only [go_sem, *]; (first | done | exact rfl)) | rfl)) ?_ ?_ <;> intro hb <;> (try simp only [beq_false, beq_true, Bool.not_true, Bool.not_false, Bool.not_eq_true', Bool.not_eq_false', decide_eq_false_iff_not, decide_eq_true_eq, bne_iff_ne, beq_iff_eq, Bool.true_eq, Bool.false_eq, Bool.not_not, Bool.and_eq_true, Bool.or_eq_true, Bool.bne_true, Bool.bne_false, bne_eq_false_iff_eq, beq_eq_false_iff_ne, ne_eq] at hb))
      | (refine W_cond _ (by (first | (simp only [go_sem, *]; (first | done | exact rfl)) | rfl)) ?_ ?_ <;> intro hb <;> (try simp only [beq_false, beq_true, Bool.not_true, Bool.not_false, Bool.not_eq_true', Bool.not_eq_false', decide_eq_false_iff_not, decide_eq_true_eq, bne_iff_ne, beq_iff_eq, Bool.true_eq, Bool.false_eq, Bool.not_not, Bool.and_eq_true, Bool.or_eq_true, Bool.bne_true, Bool.bne_false, bne_eq_false_iff_eq, beq_eq_false_iff_ne, ne_eq] at hb)))
    all_goals exact ⟨rfl, (by repeat' (first | assumption | exact Up.refl _ | refine Up.new ?_ ?_))⟩
  · by_cases c2 : k1 > 13
    · have B0 := decide_eq_false (show ¬ (1 ≤ k1 ∧ k1 ≤ 13) by omega)
      have e : chk k1 k2 k3 k4 C n1 s1 s2 x L = 1 := by rw [chk_eq k1 k2 k3 k4 C n1 s1 s2 ok, B0]; rfl
      rw [e]
      clear e
      refine Sp_of (fn := f49) rfl (show W T b49 [.agg [.int .i64 k1, .int .i64 k2, .int .i64 k3, .int .i64 k4, .int .u64 (C : Int), .int .i64 n1, .int .i64 s1, .int .i64 s2, .bool ok, .str (bs x), S], .tup [], .tup [], .tup [], .tup [], .tup [], .tup [], .tup [], .tup [], .tup [], .tup [], .tup [], .tup [], .tup [], .tup [], .tup [], .tup [], .tup [], .tup [], .tup [], .tup [], .tup [], .tup []] _ _ from ?_)
      unfold b49
      repeat' (first
        | (refine wNil ?_) | (refine xPure ?_)
        | (refine xMk ?_; intro id hid; (try simp only [set_none_iff] at hid); have hz := hid; (repeat (replace hz := hz.2)); (try have := Up.none hu0 hz); refine mkDo ?_)
        | (refine xChk ?_) | (refine xChkF ?_) | (refine xSkip ?_)
        | (refine cSeq ?_) | (refine cNorm ?_) | (refine cRet ?_) | (refine cExit ?_) | (refine W_reg rfl ?_) | (refine W_block ?_) | (refine W_ret ?_) | (refine W_skip ?_) | (refine W_exit ?_) | (refine bNorm ?_) | (refine bRet ?_) | (refine bExit ?_) | (refine bExitN rfl ?_)
        | (refine xMask ?_) | (refine xT ?_) | (refine xF ?_) | (refine xRet ?_) | (refine xNorm ?_)
        | (refine wSplit _ rfl (by (first | (simp only [go_sem, *]; (first | done | exact rfl)) | rfl)) ?_ ?_ <;> intro hb <;> (try simp only [beq_false, beq_true, Bool.not_true, Bool.not_false, Bool.not_eq_true', Bool.not_eq_false', decide_eq_false_iff_not, decide_eq_true_eq, bne_iff_ne, beq_iff_eq, Bool.true_eq, Bool.false_eq, Bool.not_not, Bool.and_eq_true, Bool.or_eq_true, Bool.bne_true, Bool.bne_false, bne_eq_false_iff_eq, beq_eq_false_iff_ne, ne_eq] at hb))
        | (refine W_cond _ (by (first | (simp only [go_sem, *]; (first | done | exact rfl)) | rfl)) ?_ ?_ <;> intro hb <;> (try simp only [beq_false, beq_true, Bool.not_true, Bool.not_false, Bool.not_eq_true', Bool.not_eq_false', decide_eq_false_iff_not, decide_eq_true_eq, bne_iff_ne, beq_iff_eq, Bool.true_eq, Bool.false_eq, Bool.not_not, Bool.and_eq_true, Bool.or_eq_true, Bool.bne_true, Bool.bne_false, bne_eq_false_iff_eq, beq_eq_false_iff_ne, ne_eq] at hb)))
      all_goals exact ⟨rfl, (by repeat' (first | assumption | exact Up.refl _ | refine Up.new ?_ ?_))⟩
    · have B0 := decide_eq_true (show (1 ≤ k1 ∧ k1 ≤ 13) by omega)
      cases B1 : rgB k2 k3 k4 C n1 s1 s2 L with
      | false =>
        have e : chk k1 k2 k3 k4 C n1 s1 s2 x L = 2 := by rw [chk_eq k1 k2 k3 k4 C n1 s1 s2 ok, B0, B1]; rfl
        rw [e]
        clear e
        refine Sp_of (fn := f49) rfl (show W T b49 [.agg [.int .i64 k1, .int .i64 k2, .int .i64 k3, .int .i64 k4, .int .u64 (C : Int), .int .i64 n1, .int .i64 s1, .int .i64 s2, .bool ok, .str (bs x), S], .tup [], .tup [], .tup [], .tup [], .tup [], .tup [], .tup [], .tup [], .tup [], .tup [], .tup [], .tup [], .tup [], .tup [], .tup [], .tup [], .tup [], .tup [], .tup [], .tup [], .tup [], .tup []] _ _ from ?_)
        unfold b49
        repeat' (first
          | (refine wNil ?_) | (refine xPure ?_)
          | (refine xMk ?_; intro id hid; (try simp only [set_none_iff] at hid); have hz := hid; (repeat (replace hz := hz.2)); (try have := Up.none hu0 hz); refine mkDo ?_)
          | (refine xChk ?_) | (refine xChkF ?_) | (refine xSkip ?_)
          | (refine xCall rfl rfl (sp72 k1 k2 k3 k4 C n1 s1 s2 ok x S L _ (hS.up (by repeat' (first | assumption | exact Up.refl _ | refine Up.new ?_ ?_))) hl) ?_; rintro v j1 ⟨rfl, hu⟩; rw [B1]; have HU1 : Up h j1 := Up.trans (show Up h _ from (by repeat' (first | assumption | exact Up.refl _ | refine Up.new ?_ ?_))) hu; have hb := hu _ _ set_same; clear hu; refine nTm ?_)
          | (refine cSeq ?_) | (refine cNorm ?_) | (refine cRet ?_) | (refine cExit ?_) | (refine W_reg rfl ?_) | (refine W_block ?_) | (refine W_ret ?_) | (refine W_skip ?_) | (refine W_exit ?_) | (refine bNorm ?_) | (refine bRet ?_) | (refine bExit ?_) | (refine bExitN rfl ?_)
          | (refine xMask ?_) | (refine xT ?_) | (refine xF ?_) | (refine xRet ?_) | (refine xNorm ?_)
          | (refine wSplit _ rfl (by (first | (simp only [go_sem, *]; (first | done | exact rfl)) | rfl)) ?_ ?_ <;> intro hb <;> (try simp only [beq_false, beq_true, Bool.not_true, Bool.not_false, Bool.not_eq_true', Bool.not_eq_false', decide_eq_false_iff_not, decide_eq_true_eq, bne_iff_ne, beq_iff_eq, Bool.true_eq, Bool.false_eq, Bool.not_not, Bool.and_eq_true, Bool.or_eq_true, Bool.bne_true, Bool.bne_false, bne_eq_false_iff_eq, beq_eq_false_iff_ne, ne_eq] at hb))
          | (refine W_cond _ (by (first | (simp only [go_sem, *]; (first | done | exact rfl)) | rfl)) ?_ ?_ <;> intro hb <;> (try simp only [beq_false, beq_true, Bool.not_true, Bool.not_false, Bool.not_eq_true', Bool.not_eq_false', decide_eq_false_iff_not, decide_eq_true_eq, bne_iff_ne, beq_iff_eq, Bool.true_eq, Bool.false_eq, Bool.not_not, Bool.and_eq_true, Bool.or_eq_true, Bool.bne_true, Bool.bne_false, bne_eq_false_iff_eq, beq_eq_false_iff_ne, ne_eq] at hb)))
        all_goals exact ⟨rfl, HU1⟩
      | true =>
        cases B2 : grB x L with
        | true =>
          have e : chk k1 k2 k3 k4 C n1 s1 s2 x L = 6 := by rw [chk_eq k1 k2 k3 k4 C n1 s1 s2 ok, B0, B1, B2]; rfl
          rw [e]
          clear e
          refine Sp_of (fn := f49) rfl (show W T b49 [.agg [.int .i64 k1, .int .i64 k2, .int .i64 k3, .int .i64 k4, .int .u64 (C : Int), .int .i64 n1, .int .i64 s1, .int .i64 s2, .bool ok, .str (bs x), S], .tup [], .tup [], .tup [], .tup [], .tup [], .tup [], .tup [], .tup [], .tup [], .tup [], .tup [], .tup [], .tup [], .tup [], .tup [], .tup [], .tup [], .tup [], .tup [], .tup [], .tup [], .tup []] _ _ from ?_)
          unfold b49
          repeat' (first
            | (refine wNil ?_) | (refine xPure ?_)
            | (refine xMk ?_; intro id hid; (try simp only [set_none_iff] at hid); have hz := hid; (repeat (replace hz := hz.2)); (try have := Up.none hu0 hz); refine mkDo ?_)
            | (refine xChk ?_) | (refine xChkF ?_) | (refine xSkip ?_)
            | (refine xCall rfl rfl (sp72 k1 k2 k3 k4 C n1 s1 s2 ok x S L _ (hS.up (by repeat' (first | assumption | exact Up.refl _ | refine Up.new ?_ ?_))) hl) ?_; rintro v j1 ⟨rfl, hu⟩; rw [B1]; have HU1 : Up h j1 := Up.trans (show Up h _ from (by repeat' (first | assumption | exact Up.refl _ | refine Up.new ?_ ?_))) hu; have hb := hu _ _ set_same; clear hu; refine nTm ?_)
            | (refine xCall rfl rfl (sp73 k1 k2 k3 k4 C n1 s1 s2 ok x S L _ (hS.up HU1) hl) ?_; rintro v j2 ⟨rfl, hu⟩; rw [B2]; have HU2 := HU1.trans hu; have hb2 := hu _ _ hb; clear hu; refine nTm ?_)
            | (refine cSeq ?_) | (refine cNorm ?_) | (refine cRet ?_) | (refine cExit ?_) | (refine W_reg rfl ?_) | (refine W_block ?_) | (refine W_ret ?_) | (refine W_skip ?_) | (refine W_exit ?_) | (refine bNorm ?_) | (refine bRet ?_) | (refine bExit ?_) | (refine bExitN rfl ?_)
            | (refine xMask ?_) | (refine xT ?_) | (refine xF ?_) | (refine xRet ?_) | (refine xNorm ?_)
            | (refine wSplit _ rfl (by (first | (simp only [go_sem, *]; (first | done | exact rfl)) | rfl)) ?_ ?_ <;> intro hb <;> (try simp only [beq_false, beq_true, Bool.not_true, Bool.not_false, Bool.not_eq_true', Bool.not_eq_false', decide_eq_false_iff_not, decide_eq_true_eq, bne_iff_ne, beq_iff_eq, Bool.true_eq, Bool.false_eq, Bool.not_not, Bool.and_eq_true, Bool.or_eq_true, Bool.bne_true, Bool.bne_false, bne_eq_false_iff_eq, beq_eq_false_iff_ne, ne_eq] at hb))
            | (refine W_cond _ (by (first | (simp only [go_sem, *]; (first | done | exact rfl)) | rfl)) ?_ ?_ <;> intro hb <;> (try simp only [beq_false, beq_true, Bool.not_true, Bool.not_false, Bool.not_eq_true', Bool.not_eq_false', decide_eq_false_iff_not, decide_eq_true_eq, bne_iff_ne, beq_iff_eq, Bool.true_eq, Bool.false_eq, Bool.not_not, Bool.and_eq_true, Bool.or_eq_true, Bool.bne_true, Bool.bne_false, bne_eq_false_iff_eq, beq_eq_false_iff_ne, ne_eq] at hb)))
          all_goals exact ⟨rfl, HU2⟩
        | false =>
          cases B3 : risP L with
          | false =>
            have e : chk k1 k2 k3 k4 C n1 s1 s2 x L = 4 := by rw [chk_eq k1 k2 k3 k4 C n1 s1 s2 ok, B0, B1, B2, B3]; rfl
            rw [e]
            clear e
            refine Sp_of (fn := f49) rfl (show W T b49 [.agg [.int .i64 k1, .int .i64 k2, .int .i64 k3, .int .i64 k4, .int .u64 (C : Int), .int .i64 n1, .int .i64 s1, .int .i64 s2, .bool ok, .str (bs x), S], .tup [], .tup [], .tup [], .tup [], .tup [], .tup [], .tup [], .tup [], .tup [], .tup [], .tup [], .tup [], .tup [], .tup [], .tup [], .tup [], .tup [], .tup [], .tup [], .tup [], .tup [], .tup []] _ _ from ?_)
            unfold b49
            repeat' (first
              | (refine wNil ?_) | (refine xPure ?_)
              | (refine xMk ?_; intro id hid; (try simp only [set_none_iff] at hid); have hz := hid; (repeat (replace hz := hz.2)); (try have := Up.none hu0 hz); refine mkDo ?_)
              | (refine xChk ?_) | (refine xChkF ?_) | (refine xSkip ?_)
              | (refine xCall rfl rfl (sp72 k1 k2 k3 k4 C n1 s1 s2 ok x S L _ (hS.up (by repeat' (first | assumption | exact Up.refl _ | refine Up.new ?_ ?_))) hl) ?_; rintro v j1 ⟨rfl, hu⟩; rw [B1]; have HU1 : Up h j1 := Up.trans (show Up h _ from (by repeat' (first | assumption | exact Up.refl _ | refine Up.new ?_ ?_))) hu; have hb := hu _ _ set_same; clear hu; refine nTm ?_)
              | (refine xCall rfl rfl (sp73 k1 k2 k3 k4 C n1 s1 s2 ok x S L _ (hS.up HU1) hl) ?_; rintro v j2 ⟨rfl, hu⟩; rw [B2]; have HU2 := HU1.trans hu; have hb2 := hu _ _ hb; clear hu; refine nTm ?_)
              | (refine xCall rfl rfl (sp74 k1 k2 k3 k4 C n1 s1 s2 ok x S L _ (hS.up HU2) hl) ?_; rintro v j3 ⟨rfl, hu⟩; rw [B3]; have HU3 := HU2.trans hu; clear hu; refine nTm ?_)
              | (refine cSeq ?_) | (refine cNorm ?_) | (refine cRet ?_) | (refine cExit ?_) | (refine W_reg rfl ?_) | (refine W_block ?_) | (refine W_ret ?_) | (refine W_skip ?_) | (refine W_exit ?_) | (refine bNorm ?_) | (refine bRet ?_) | (refine bExit ?_) | (refine bExitN rfl ?_)
              | (refine xMask ?_) | (refine xT ?_) | (refine xF ?_) | (refine xRet ?_) | (refine xNorm ?_)
              | (refine wSplit _ rfl (by (first | (simp only [go_sem, *]; (first | done | exact rfl)) | rfl)) ?_ ?_ <;> intro hb <;> (try simp only [beq_false, beq_true, Bool.not_true, Bool.not_false, Bool.not_eq_true', Bool.not_eq_false', decide_eq_false_iff_not, decide_eq_true_eq, bne_iff_ne, beq_iff_eq, Bool.true_eq, Bool.false_eq, Bool.not_not, Bool.and_eq_true, Bool.or_eq_true, Bool.bne_true, Bool.bne_false, bne_eq_false_iff_eq, beq_eq_false_iff_ne, ne_eq] at hb))
              | (refine W_cond _ (by (first | (simp only [go_sem, *]; (first | done | exact rfl)) | rfl)) ?_ ?_ <;> intro hb <;> (try simp only [beq_false, beq_true, Bool.not_true, Bool.not_false, Bool.not_eq_true', Bool.not_eq_false', decide_eq_false_iff_not, decide_eq_true_eq, bne_iff_ne, beq_iff_eq, Bool.true_eq, Bool.false_eq, Bool.not_not, Bool.and_eq_true, Bool.or_eq_true, Bool.bne_true, Bool.bne_false, bne_eq_false_iff_eq, beq_eq_false_iff_ne, ne_eq] at hb)))
            all_goals exact ⟨rfl, HU3⟩
          | true =>
            have e : chk k1 k2 k3 k4 C n1 s1 s2 x L = 0 := by rw [chk_eq k1 k2 k3 k4 C n1 s1 s2 ok, B0, B1, B2, B3]; rfl
            rw [e]
            clear e
            refine Sp_of (fn := f49) rfl (show W T b49 [.agg [.int .i64 k1, .int .i64 k2, .int .i64 k3, .int .i64 k4, .int .u64 (C : Int), .int .i64 n1, .int .i64 s1, .int .i64 s2, .bool ok, .str (bs x), S], .tup [], .tup [], .tup [], .tup [], .tup [], .tup [], .tup [], .tup [], .tup [], .tup [], .tup [], .tup [], .tup [], .tup [], .tup [], .tup [], .tup [], .tup [], .tup [], .tup [], .tup [], .tup []] _ _ from ?_)
            unfold b49
            repeat' (first
              | (refine wNil ?_) | (refine xPure ?_)
              | (refine xMk ?_; intro id hid; (try simp only [set_none_iff] at hid); have hz := hid; (repeat (replace hz := hz.2)); (try have := Up.none hu0 hz); refine mkDo ?_)
              | (refine xChk ?_) | (refine xChkF ?_) | (refine xSkip ?_)
              | (refine xCall rfl rfl (sp72 k1 k2 k3 k4 C n1 s1 s2 ok x S L _ (hS.up (by repeat' (first | assumption | exact Up.refl _ | refine Up.new ?_ ?_))) hl) ?_; rintro v j1 ⟨rfl, hu⟩; rw [B1]; have HU1 : Up h j1 := Up.trans (show Up h _ from (by repeat' (first | assumption | exact Up.refl _ | refine Up.new ?_ ?_))) hu; have hb := hu _ _ set_same; clear hu; refine nTm ?_)
              | (refine xCall rfl rfl (sp73 k1 k2 k3 k4 C n1 s1 s2 ok x S L _ (hS.up HU1) hl) ?_; rintro v j2 ⟨rfl, hu⟩; rw [B2]; have HU2 := HU1.trans hu; have hb2 := hu _ _ hb; clear hu; refine nTm ?_)
              | (refine xCall rfl rfl (sp74 k1 k2 k3 k4 C n1 s1 s2 ok x S L _ (hS.up HU2) hl) ?_; rintro v j3 ⟨rfl, hu⟩; rw [B3]; have HU3 := HU2.trans hu; clear hu; refine nTm ?_)
              | (refine cSeq ?_) | (refine cNorm ?_) | (refine cRet ?_) | (refine cExit ?_) | (refine W_reg rfl ?_) | (refine W_block ?_) | (refine W_ret ?_) | (refine W_skip ?_) | (refine W_exit ?_) | (refine bNorm ?_) | (refine bRet ?_) | (refine bExit ?_) | (refine bExitN rfl ?_)
              | (refine xMask ?_) | (refine xT ?_) | (refine xF ?_) | (refine xRet ?_) | (refine xNorm ?_)
              | (refine wSplit _ rfl (by (first | (simp only [go_sem, *]; (first | done | exact rfl)) | rfl)) ?_ ?_ <;> intro hb <;> (try simp only [beq_false, beq_true, Bool.not_true, Bool.not_false, Bool.not_eq_true', Bool.not_eq_false', decide_eq_false_iff_not, decide_eq_true_eq, bne_iff_ne, beq_iff_eq, Bool.true_eq, Bool.false_eq, Bool.not_not, Bool.and_eq_true, Bool.or_eq_true, Bool.bne_true, Bool.bne_false, bne_eq_false_iff_eq, beq_eq_false_iff_ne, ne_eq] at hb))
              | (refine W_cond _ (by (first | (simp only [go_sem, *]; (first | done | exact rfl)) | rfl)) ?_ ?_ <;> intro hb <;> (try simp only [beq_false, beq_true, Bool.not_true, Bool.not_false, Bool.not_eq_true', Bool.not_eq_false', decide_eq_false_iff_not, decide_eq_true_eq, bne_iff_ne, beq_iff_eq, Bool.true_eq, Bool.false_eq, Bool.not_not, Bool.and_eq_true, Bool.or_eq_true, Bool.bne_true, Bool.bne_false, bne_eq_false_iff_eq, beq_eq_false_iff_ne, ne_eq] at hb)))
            all_goals exact ⟨rfl, HU3⟩
end Go.Proofs.YtgekngfnhhdamaaI
set_option linter.unusedVariables false
set_option linter.unusedSimpArgs false
set_option maxRecDepth 100000
set_option maxHeartbeats 4000000
namespace Go.Proofs.YtgekngfnhhdamaaI
open Go Go.Proofs.YtgekngfnhhdamaaM
attribute [local go_sem] aop ev fg_slc fg_slk fg_ptr fg_bool fg_int fg_str fg_iface fg_func fg_agg fg_tup fg_nils fg_nilp fg_nilI fg_nilF fg_und aboundsK alen_nils alen_slc alen_slk aslice_nils aslice_slc aslice_slk awanted abin aun aint aeqn aeqc aeqs apart abounds abnd amaxi amaxiGo cells_agg cells_slc cells_slk cells_ptr cells_bool cells_int cells_str cells_iface cells_func cells_tup cells_nils cells_nilp cells_nilI cells_nilF cells_und sc_slc sc_slk sc_ptr sc_bool sc_int sc_str sc_iface sc_func sc_nils sc_nilp sc_nilI sc_nilF gd_zero gd_succ List.all_cons List.all_nil Bool.and_self Bool.and_true Bool.true_and List.length_cons List.length_nil Option.map_some Option.some.injEq cell_same cell_ne cell_ne' cellsAt_same cellsAt_ne cellsAt_ne' put_same put_of set_same set_ne set_ne' List.getElem?_cons_zero List.getElem?_cons_succ if_true if_false and_self and_true true_and ne_eq not_true_eq_false not_false_eq_true decide_true decide_false Bool.false_eq_true Bool.true_eq_false beq_self_eq_true bne_self_eq_false beq_true beq_false Bool.not_true Bool.not_false List.map_cons List.map_nil putL List.set_cons_zero List.set_cons_succ afill Nat.zero_le Nat.le_refl Nat.zero_add Nat.add_zero List.drop_zero List.drop_succ_cons List.take_zero List.take_succ_cons Bool.not_eq_true Bool.not_eq_false decide_eq_true_eq decide_eq_false_iff_not Int.toNat_zero Nat.sub_zero Int.toNat_natCast Bool.bne_true Bool.bne_false AH.cell AH.cellsAt AH.put Nat.mul_one Nat.one_mul Int.natCast_nonneg List.length_set bs_append bs_size bs_toList bs_extract bs_get List.cons_append List.nil_append List.append_nil
def xr (x y : Int) : Int := IntKind.u32.wrap ((BitVec.ofInt IntKind.u32.bits x ^^^ BitVec.ofInt IntKind.u32.bits y).toNat : Int)
def an (x y : Int) : Int := IntKind.u32.wrap ((BitVec.ofInt IntKind.u32.bits x &&& BitVec.ofInt IntKind.u32.bits y).toNat : Int)
theorem xr_eq (x y : Int) : absBits .xor .u32 x y = some (xr x y) := rfl
theorem an_eq (x y : Int) : absBits .and .u32 x y = some (an x y) := rfl
theorem xr_rng (x y : Int) : 0 ≤ xr x y ∧ xr x y < 4294967296 := by
  unfold xr
  have h := (BitVec.ofInt IntKind.u32.bits x ^^^ BitVec.ofInt IntKind.u32.bits y).isLt
  have e : (2 : Nat) ^ IntKind.u32.bits = 4294967296 := by decide
  rw [wrapU32 (by omega) (by omega)]
  omega
/-- A byte's rounds. -/
def half (c : Int) : Int := c.fdiv (2 ^ (min (Int.toNat 1) 32))
def rnd (c : Int) : Int := if an c 1 = 1 then xr (half c) 3988292384 else half c
def rnds : Nat → Int → Int
  | 0, c => c
  | n + 1, c => rnds n (rnd c)
theorem rnds_succ : ∀ (k : Nat) (c : Int), rnds (k + 1) c = rnd (rnds k c)
  | 0, c => rfl
  | k + 1, c => by rw [rnds, rnds_succ k, rnds]
def mo (c : Int) (b : UInt8) : Int := rnds 8 (xr c (IntKind.u32.wrap (b.toNat : Int)))
def smF (l : List UInt8) : Int := xr 4294967295 (l.foldl mo 4294967295)
/-- more -/
theorem sp69 (c : Int) (b : UInt8) (h : AH) : Sp T 69 [.int .u32 c, .int .u8 b.toNat] h (fun v h' => v = .int .u32 (mo c b) ∧ h' = h) := by
  have x0 := xr_eq c (IntKind.u32.wrap (b.toNat : Int))
  refine Sp_of (fn := f69) rfl (show W T b69 [.int .u32 c, .int .u8 b.toNat, .tup [], .tup [], .tup [], .tup [], .tup [], .tup [], .tup [], .tup [], .tup [], .tup [], .tup [], .tup [], .tup [], .tup [], .tup [], .tup [], .tup [], .tup [], .tup [], .tup []] _ _ from ?_)
  unfold b69
  repeat' (first
    | (refine wNil ?_) | (refine xPure ?_)
    | (refine xMk ?_; intro id hid; (try simp only [set_none_iff] at hid); refine mkDo ?_)
    | (refine xChk ?_) | (refine xChkF ?_) | (refine xSkip ?_)
    | (refine cSeq ?_) | (refine cNorm ?_) | (refine cRet ?_) | (refine cExit ?_) | (refine W_reg rfl ?_) | (refine W_block ?_) | (refine W_ret ?_) | (refine W_skip ?_) | (refine W_exit ?_) | (refine bNorm ?_) | (refine bRet ?_) | (refine bExit ?_) | (refine bExitN rfl ?_)
    | (refine xMask ?_) | (refine xT ?_) | (refine xF ?_) | (refine xRet ?_) | (refine xNorm ?_)
    | (refine wSplit _ rfl (by (first | (simp only [go_sem, *]; (first | done | exact rfl)) | rfl)) ?_ ?_ <;> intro hb <;> (try simp only [beq_false, beq_true, Bool.not_true, Bool.not_false, Bool.not_eq_true', Bool.not_eq_false', decide_eq_false_iff_not, decide_eq_true_eq, bne_iff_ne, beq_iff_eq, Bool.true_eq, Bool.false_eq, Bool.not_not, Bool.and_eq_true, Bool.or_eq_true, Bool.bne_true, Bool.bne_false, bne_eq_false_iff_eq, beq_eq_false_iff_ne, ne_eq] at hb))
    | (refine W_cond _ (by (first | (simp only [go_sem, *]; (first | done | exact rfl)) | rfl)) ?_ ?_ <;> intro hb <;> (try simp only [beq_false, beq_true, Bool.not_true, Bool.not_false, Bool.not_eq_true', Bool.not_eq_false', decide_eq_false_iff_not, decide_eq_true_eq, bne_iff_ne, beq_iff_eq, Bool.true_eq, Bool.false_eq, Bool.not_not, Bool.and_eq_true, Bool.or_eq_true, Bool.bne_true, Bool.bne_false, bne_eq_false_iff_eq, beq_eq_false_iff_ne, ne_eq] at hb)))
  refine W_loop (fun m tm h' => ∃ k : Nat, k + m = 8 ∧ h' = h ∧ keep [0, 10] 0 tm = [.int .u32 (rnds k (xr c (IntKind.u32.wrap (b.toNat : Int)))), .und, .und, .und, .und, .und, .und, .und, .und, .und, .int .i64 (k : Int), .und, .und, .und, .und, .und, .und, .und, .und, .und, .und, .und]) 8 ⟨0, rfl, rfl, rfl⟩ ?_
  rintro m tm h' ⟨k, hk, rfl, htm⟩
  refine cSeq (cMask (cNorm ?_))
  rw [htm]; clear htm
  by_cases h8 : k < 8
  · have d1 : (k : Int) < 8 := by omega
    have w1 : IntKind.i64.wrap ((k : Int) + 1) = ((k + 1 : Nat) : Int) := by rw [wrap64 (by omega) (by omega)]; rfl
    have e1 := rnds_succ k (xr c (IntKind.u32.wrap (b.toNat : Int)))
    obtain ⟨z, hz⟩ : ∃ z, rnds k (xr c (IntKind.u32.wrap (b.toNat : Int))) = z := ⟨_, rfl⟩
    rw [hz] at e1 ⊢
    clear hz x0
    have x1 := an_eq z 1
    have x2 : z.fdiv (2 ^ (min (Int.toNat 1) 32)) = half z := rfl
    have x4 : ¬ (1 : Int) < 0 := by decide
    by_cases hc : an z 1 = 1
    · have x3 := xr_eq (half z) 3988292384
      have e2 : rnd z = xr (half z) 3988292384 := if_pos hc
      have hc' : (an z 1 == 1) = true := by simpa using hc
      repeat' (first
        | (refine wNil ?_) | (refine xPure ?_)
        | (refine xMk ?_; intro id hid; (try simp only [set_none_iff] at hid); refine mkDo ?_)
        | (refine xChk ?_) | (refine xChkF ?_) | (refine xSkip ?_)
        | (refine cSeq ?_) | (refine cNorm ?_) | (refine cRet ?_) | (refine cExit ?_) | (refine W_reg rfl ?_) | (refine W_block ?_) | (refine W_ret ?_) | (refine W_skip ?_) | (refine W_exit ?_) | (refine bNorm ?_) | (refine bRet ?_) | (refine bExit ?_) | (refine bExitN rfl ?_)
        | (refine xMask ?_) | (refine xT ?_) | (refine xF ?_) | (refine xRet ?_) | (refine xNorm ?_)
        | (refine wSplit _ rfl (by (first | (simp only [go_sem, *]; (first | done | exact rfl)) | rfl)) ?_ ?_ <;> intro hb <;> (try simp only [beq_false, beq_true, Bool.not_true, Bool.not_false, Bool.not_eq_true', Bool.not_eq_false', decide_eq_false_iff_not, decide_eq_true_eq, bne_iff_ne, beq_iff_eq, Bool.true_eq, Bool.false_eq, Bool.not_not, Bool.and_eq_true, Bool.or_eq_true, Bool.bne_true, Bool.bne_false, bne_eq_false_iff_eq, beq_eq_false_iff_ne, ne_eq] at hb))
        | (refine W_cond _ (by (first | (simp only [go_sem, *]; (first | done | exact rfl)) | rfl)) ?_ ?_ <;> intro hb <;> (try simp only [beq_false, beq_true, Bool.not_true, Bool.not_false, Bool.not_eq_true', Bool.not_eq_false', decide_eq_false_iff_not, decide_eq_true_eq, bne_iff_ne, beq_iff_eq, Bool.true_eq, Bool.false_eq, Bool.not_not, Bool.and_eq_true, Bool.or_eq_true, Bool.bne_true, Bool.bne_false, bne_eq_false_iff_eq, beq_eq_false_iff_ne, ne_eq] at hb)))
      all_goals exact ⟨m - 1, by omega, k + 1, by omega, rfl, by rw [e1, e2]; simp only [keep, List.contains_cons, List.contains_nil, Nat.reduceBEq, Bool.or_true, Bool.true_or, Bool.or_false, Bool.false_or, if_true, if_false, Bool.false_eq_true, beq_self_eq_true, Nat.zero_add, Nat.reduceAdd, eq_self]⟩
    · have e2 : rnd z = half z := if_neg hc
      have hc' : (an z 1 == 1) = false := by simpa using hc
      repeat' (first
        | (refine wNil ?_) | (refine xPure ?_)
        | (refine xMk ?_; intro id hid; (try simp only [set_none_iff] at hid); refine mkDo ?_)
        | (refine xChk ?_) | (refine xChkF ?_) | (refine xSkip ?_)
        | (refine cSeq ?_) | (refine cNorm ?_) | (refine cRet ?_) | (refine cExit ?_) | (refine W_reg rfl ?_) | (refine W_block ?_) | (refine W_ret ?_) | (refine W_skip ?_) | (refine W_exit ?_) | (refine bNorm ?_) | (refine bRet ?_) | (refine bExit ?_) | (refine bExitN rfl ?_)
        | (refine xMask ?_) | (refine xT ?_) | (refine xF ?_) | (refine xRet ?_) | (refine xNorm ?_)
        | (refine wSplit _ rfl (by (first | (simp only [go_sem, *]; (first | done | exact rfl)) | rfl)) ?_ ?_ <;> intro hb <;> (try simp only [beq_false, beq_true, Bool.not_true, Bool.not_false, Bool.not_eq_true', Bool.not_eq_false', decide_eq_false_iff_not, decide_eq_true_eq, bne_iff_ne, beq_iff_eq, Bool.true_eq, Bool.false_eq, Bool.not_not, Bool.and_eq_true, Bool.or_eq_true, Bool.bne_true, Bool.bne_false, bne_eq_false_iff_eq, beq_eq_false_iff_ne, ne_eq] at hb))
        | (refine W_cond _ (by (first | (simp only [go_sem, *]; (first | done | exact rfl)) | rfl)) ?_ ?_ <;> intro hb <;> (try simp only [beq_false, beq_true, Bool.not_true, Bool.not_false, Bool.not_eq_true', Bool.not_eq_false', decide_eq_false_iff_not, decide_eq_true_eq, bne_iff_ne, beq_iff_eq, Bool.true_eq, Bool.false_eq, Bool.not_not, Bool.and_eq_true, Bool.or_eq_true, Bool.bne_true, Bool.bne_false, bne_eq_false_iff_eq, beq_eq_false_iff_ne, ne_eq] at hb)))
      all_goals exact ⟨m - 1, by omega, k + 1, by omega, rfl, by rw [e1, e2]; simp only [keep, List.contains_cons, List.contains_nil, Nat.reduceBEq, Bool.or_true, Bool.true_or, Bool.or_false, Bool.false_or, if_true, if_false, Bool.false_eq_true, beq_self_eq_true, Nat.zero_add, Nat.reduceAdd, eq_self]⟩
  · have d1 : ¬ (k : Int) < 8 := by omega
    obtain rfl : k = 8 := by omega
    repeat' (first
      | (refine wNil ?_) | (refine xPure ?_)
      | (refine xMk ?_; intro id hid; (try simp only [set_none_iff] at hid); refine mkDo ?_)
      | (refine xChk ?_) | (refine xChkF ?_) | (refine xSkip ?_)
      | (refine cSeq ?_) | (refine cNorm ?_) | (refine cRet ?_) | (refine cExit ?_) | (refine W_reg rfl ?_) | (refine W_block ?_) | (refine W_ret ?_) | (refine W_skip ?_) | (refine W_exit ?_) | (refine bNorm ?_) | (refine bRet ?_) | (refine bExit ?_) | (refine bExitN rfl ?_)
      | (refine xMask ?_) | (refine xT ?_) | (refine xF ?_) | (refine xRet ?_) | (refine xNorm ?_)
      | (refine wSplit _ rfl (by (first | (simp only [go_sem, *]; (first | done | exact rfl)) | rfl)) ?_ ?_ <;> intro hb <;> (try simp only [beq_false, beq_true, Bool.not_true, Bool.not_false, Bool.not_eq_true', Bool.not_eq_false', decide_eq_false_iff_not, decide_eq_true_eq, bne_iff_ne, beq_iff_eq, Bool.true_eq, Bool.false_eq, Bool.not_not, Bool.and_eq_true, Bool.or_eq_true, Bool.bne_true, Bool.bne_false, bne_eq_false_iff_eq, beq_eq_false_iff_ne, ne_eq] at hb))
      | (refine W_cond _ (by (first | (simp only [go_sem, *]; (first | done | exact rfl)) | rfl)) ?_ ?_ <;> intro hb <;> (try simp only [beq_false, beq_true, Bool.not_true, Bool.not_false, Bool.not_eq_true', Bool.not_eq_false', decide_eq_false_iff_not, decide_eq_true_eq, bne_iff_ne, beq_iff_eq, Bool.true_eq, Bool.false_eq, Bool.not_not, Bool.and_eq_true, Bool.or_eq_true, Bool.bne_true, Bool.bne_false, bne_eq_false_iff_eq, beq_eq_false_iff_ne, ne_eq] at hb)))
    all_goals exact ⟨rfl, rfl⟩
end Go.Proofs.YtgekngfnhhdamaaI
set_option linter.unusedVariables false
set_option linter.unusedSimpArgs false
set_option maxRecDepth 100000
set_option maxHeartbeats 4000000
namespace Go.Proofs.YtgekngfnhhdamaaI
open Go Go.Proofs.YtgekngfnhhdamaaM
attribute [local go_sem] aop ev fg_slc fg_slk fg_ptr fg_bool fg_int fg_str fg_iface fg_func fg_agg fg_tup fg_nils fg_nilp fg_nilI fg_nilF fg_und aboundsK alen_nils alen_slc alen_slk aslice_nils aslice_slc aslice_slk awanted abin aun aint aeqn aeqc aeqs apart abounds abnd amaxi amaxiGo cells_agg cells_slc cells_slk cells_ptr cells_bool cells_int cells_str cells_iface cells_func cells_tup cells_nils cells_nilp cells_nilI cells_nilF cells_und sc_slc sc_slk sc_ptr sc_bool sc_int sc_str sc_iface sc_func sc_nils sc_nilp sc_nilI sc_nilF gd_zero gd_succ List.all_cons List.all_nil Bool.and_self Bool.and_true Bool.true_and List.length_cons List.length_nil Option.map_some Option.some.injEq cell_same cell_ne cell_ne' cellsAt_same cellsAt_ne cellsAt_ne' put_same put_of set_same set_ne set_ne' List.getElem?_cons_zero List.getElem?_cons_succ if_true if_false and_self and_true true_and ne_eq not_true_eq_false not_false_eq_true decide_true decide_false Bool.false_eq_true Bool.true_eq_false beq_self_eq_true bne_self_eq_false beq_true beq_false Bool.not_true Bool.not_false List.map_cons List.map_nil putL List.set_cons_zero List.set_cons_succ afill Nat.zero_le Nat.le_refl Nat.zero_add Nat.add_zero List.drop_zero List.drop_succ_cons List.take_zero List.take_succ_cons Bool.not_eq_true Bool.not_eq_false decide_eq_true_eq decide_eq_false_iff_not Int.toNat_zero Nat.sub_zero Int.toNat_natCast Bool.bne_true Bool.bne_false AH.cell AH.cellsAt AH.put Nat.mul_one Nat.one_mul Int.natCast_nonneg List.length_set bs_append bs_size bs_toList bs_extract bs_get List.cons_append List.nil_append List.append_nil
/-- Sum of one text -/
theorem sp44 (q : List Nat) (ob : Bool) (l : List UInt8) (h : AH) (hq : h q = some ⟨ob, [.str (bs l)]⟩) (hl : l.length ≤ 1099511627776) : Sp T 44 [.slc q 0 1 1] h (fun v h' => v = .int .u32 (smF l) ∧ h' = h) := by
  refine Sp_of (fn := f44) rfl (show W T b44 [.slc q 0 1 1, .tup [], .tup [], .tup [], .tup [], .tup [], .tup [], .tup [], .tup [], .tup [], .tup [], .tup [], .tup [], .tup [], .tup [], .tup [], .tup [], .tup [], .tup [], .tup [], .tup [], .tup [], .tup [], .tup [], .tup [], .tup [], .tup []] _ _ from ?_)
  unfold b44
  repeat' (first
    | (refine wNil ?_) | (refine xPure ?_)
    | (refine xMk ?_; intro id hid; (try simp only [set_none_iff] at hid); refine mkDo ?_)
    | (refine xChk ?_) | (refine xChkF ?_) | (refine xSkip ?_)
    | (refine cSeq ?_) | (refine cNorm ?_) | (refine cRet ?_) | (refine cExit ?_) | (refine W_reg rfl ?_) | (refine W_block ?_) | (refine W_ret ?_) | (refine W_skip ?_) | (refine W_exit ?_) | (refine bNorm ?_) | (refine bRet ?_) | (refine bExit ?_) | (refine bExitN rfl ?_)
    | (refine xMask ?_) | (refine xT ?_) | (refine xF ?_) | (refine xRet ?_) | (refine xNorm ?_)
    | (refine wSplit _ rfl (by (first | (simp only [go_sem, *]; (first | done | exact rfl)) | rfl)) ?_ ?_ <;> intro hb <;> (try simp only [beq_false, beq_true, Bool.not_true, Bool.not_false, Bool.not_eq_true', Bool.not_eq_false', decide_eq_false_iff_not, decide_eq_true_eq, bne_iff_ne, beq_iff_eq, Bool.true_eq, Bool.false_eq, Bool.not_not, Bool.and_eq_true, Bool.or_eq_true, Bool.bne_true, Bool.bne_false, bne_eq_false_iff_eq, beq_eq_false_iff_ne, ne_eq] at hb))
    | (refine W_cond _ (by (first | (simp only [go_sem, *]; (first | done | exact rfl)) | rfl)) ?_ ?_ <;> intro hb <;> (try simp only [beq_false, beq_true, Bool.not_true, Bool.not_false, Bool.not_eq_true', Bool.not_eq_false', decide_eq_false_iff_not, decide_eq_true_eq, bne_iff_ne, beq_iff_eq, Bool.true_eq, Bool.false_eq, Bool.not_not, Bool.and_eq_true, Bool.or_eq_true, Bool.bne_true, Bool.bne_false, bne_eq_false_iff_eq, beq_eq_false_iff_ne, ne_eq] at hb)))
  refine W_loop (fun m tm h' => h' = h ∧ ((m = 1 ∧ keep [3, 7, 8, 9] 0 tm = [.und, .und, .und, .int .u32 4294967295, .und, .und, .und, .slc q 0 1 1, .int .i64 1, .int .i64 0, .und, .und, .und, .und, .und, .und, .und, .und, .und, .und, .und, .und, .und, .und, .und, .und, .und]) ∨ (m = 0 ∧ keep [3, 7, 8, 9] 0 tm = [.und, .und, .und, .int .u32 (l.foldl mo 4294967295), .und, .und, .und, .slc q 0 1 1, .int .i64 1, .int .i64 1, .und, .und, .und, .und, .und, .und, .und, .und, .und, .und, .und, .und, .und, .und, .und, .und, .und]))) 1 ⟨rfl, .inl ⟨rfl, rfl⟩⟩ ?_
  rintro m tm h' ⟨rfl, hI⟩
  refine cSeq (cMask (cNorm ?_))
  have w0 : IntKind.i64.wrap (0 + 1) = 1 := by decide
  rcases hI with ⟨rfl, htm⟩ | ⟨rfl, htm⟩
  all_goals rw [htm]; clear htm
  · repeat' (first
      | (refine wNil ?_) | (refine xPure ?_)
      | (refine xMk ?_; intro id hid; (try simp only [set_none_iff] at hid); refine mkDo ?_)
      | (refine xChk ?_) | (refine xChkF ?_) | (refine xSkip ?_)
      | (refine cSeq ?_) | (refine cNorm ?_) | (refine cRet ?_) | (refine cExit ?_) | (refine W_reg rfl ?_) | (refine W_block ?_) | (refine W_ret ?_) | (refine W_skip ?_) | (refine W_exit ?_) | (refine bNorm ?_) | (refine bRet ?_) | (refine bExit ?_) | (refine bExitN rfl ?_)
      | (refine xMask ?_) | (refine xT ?_) | (refine xF ?_) | (refine xRet ?_) | (refine xNorm ?_)
      | (refine wSplit _ rfl (by (first | (simp only [go_sem, *]; (first | done | exact rfl)) | rfl)) ?_ ?_ <;> intro hb <;> (try simp only [beq_false, beq_true, Bool.not_true, Bool.not_false, Bool.not_eq_true', Bool.not_eq_false', decide_eq_false_iff_not, decide_eq_true_eq, bne_iff_ne, beq_iff_eq, Bool.true_eq, Bool.false_eq, Bool.not_not, Bool.and_eq_true, Bool.or_eq_true, Bool.bne_true, Bool.bne_false, bne_eq_false_iff_eq, beq_eq_false_iff_ne, ne_eq] at hb))
      | (refine W_cond _ (by (first | (simp only [go_sem, *]; (first | done | exact rfl)) | rfl)) ?_ ?_ <;> intro hb <;> (try simp only [beq_false, beq_true, Bool.not_true, Bool.not_false, Bool.not_eq_true', Bool.not_eq_false', decide_eq_false_iff_not, decide_eq_true_eq, bne_iff_ne, beq_iff_eq, Bool.true_eq, Bool.false_eq, Bool.not_not, Bool.and_eq_true, Bool.or_eq_true, Bool.bne_true, Bool.bne_false, bne_eq_false_iff_eq, beq_eq_false_iff_ne, ne_eq] at hb)))
    refine W_loop (fun m tm h'' => ∃ k : Nat, k + m = l.length ∧ h'' = h' ∧ keep [3, 5, 7, 8, 9, 14, 15] 0 tm = [.und, .und, .und, .int .u32 ((l.take k).foldl mo 4294967295), .und, .str (bs l), .und, .slc q 0 1 1, .int .i64 1, .int .i64 0, .und, .und, .und, .und, .int .i64 (l.length : Int), .int .i64 (k : Int), .und, .und, .und, .und, .und, .und, .und, .und, .und, .und, .und]) l.length ⟨0, by omega, rfl, rfl⟩ ?_
    rintro m tm h'' ⟨k, hk, rfl, htm⟩
    refine cSeq (cMask (cNorm ?_))
    rw [htm]; clear htm
    by_cases hkl : k < l.length
    · have d1 : (k : Int) < (l.length : Int) := by omega
      have w1 : IntKind.i64.wrap ((k : Int) + 1) = ((k + 1 : Nat) : Int) := by rw [wrap64 (by omega) (by omega)]; rfl
      obtain ⟨b, hb⟩ : ∃ b, l[k]? = some b := ⟨_, List.getElem?_eq_getElem hkl⟩
      have e1 : (l.take (k + 1)).foldl mo 4294967295 = mo ((l.take k).foldl mo 4294967295) b := by
        rw [List.take_add_one, hb, List.foldl_append]; rfl
      obtain ⟨z, hz⟩ : ∃ z, (l.take k).foldl mo 4294967295 = z := ⟨_, rfl⟩
      rw [hz] at e1 ⊢
      clear hz
      repeat' (first
        | (refine wNil ?_) | (refine xPure ?_)
        | (refine xMk ?_; intro id hid; (try simp only [set_none_iff] at hid); refine mkDo ?_)
        | (refine xChk ?_) | (refine xChkF ?_) | (refine xSkip ?_)
        | (refine xCall rfl rfl (sp69 z b _) ?_; rintro v h3 ⟨rfl, hx⟩; cases hx; refine nTm ?_)
        | (refine cSeq ?_) | (refine cNorm ?_) | (refine cRet ?_) | (refine cExit ?_) | (refine W_reg rfl ?_) | (refine W_block ?_) | (refine W_ret ?_) | (refine W_skip ?_) | (refine W_exit ?_) | (refine bNorm ?_) | (refine bRet ?_) | (refine bExit ?_) | (refine bExitN rfl ?_)
        | (refine xMask ?_) | (refine xT ?_) | (refine xF ?_) | (refine xRet ?_) | (refine xNorm ?_)
        | (refine wSplit _ rfl (by (first | (simp only [go_sem, *]; (first | done | exact rfl)) | rfl)) ?_ ?_ <;> intro hb <;> (try simp only [beq_false, beq_true, Bool.not_true, Bool.not_false, Bool.not_eq_true', Bool.not_eq_false', decide_eq_false_iff_not, decide_eq_true_eq, bne_iff_ne, beq_iff_eq, Bool.true_eq, Bool.false_eq, Bool.not_not, Bool.and_eq_true, Bool.or_eq_true, Bool.bne_true, Bool.bne_false, bne_eq_false_iff_eq, beq_eq_false_iff_ne, ne_eq] at hb))
        | (refine W_cond _ (by (first | (simp only [go_sem, *]; (first | done | exact rfl)) | rfl)) ?_ ?_ <;> intro hb <;> (try simp only [beq_false, beq_true, Bool.not_true, Bool.not_false, Bool.not_eq_true', Bool.not_eq_false', decide_eq_false_iff_not, decide_eq_true_eq, bne_iff_ne, beq_iff_eq, Bool.true_eq, Bool.false_eq, Bool.not_not, Bool.and_eq_true, Bool.or_eq_true, Bool.bne_true, Bool.bne_false, bne_eq_false_iff_eq, beq_eq_false_iff_ne, ne_eq] at hb)))
      all_goals exact ⟨m - 1, by omega, k + 1, by omega, rfl, by rw [e1]; simp only [keep, List.contains_cons, List.contains_nil, Nat.reduceBEq, Bool.or_true, Bool.true_or, Bool.or_false, Bool.false_or, if_true, if_false, Bool.false_eq_true, beq_self_eq_true, Nat.zero_add, Nat.reduceAdd, eq_self]⟩
    · have d1 : ¬ (k : Int) < (l.length : Int) := by omega
      rw [List.take_of_length_le (by omega)]
      repeat' (first
        | (refine wNil ?_) | (refine xPure ?_)
        | (refine xMk ?_; intro id hid; (try simp only [set_none_iff] at hid); refine mkDo ?_)
        | (refine xChk ?_) | (refine xChkF ?_) | (refine xSkip ?_)
        | (refine cSeq ?_) | (refine cNorm ?_) | (refine cRet ?_) | (refine cExit ?_) | (refine W_reg rfl ?_) | (refine W_block ?_) | (refine W_ret ?_) | (refine W_skip ?_) | (refine W_exit ?_) | (refine bNorm ?_) | (refine bRet ?_) | (refine bExit ?_) | (refine bExitN rfl ?_)
        | (refine xMask ?_) | (refine xT ?_) | (refine xF ?_) | (refine xRet ?_) | (refine xNorm ?_)
        | (refine wSplit _ rfl (by (first | (simp only [go_sem, *]; (first | done | exact rfl)) | rfl)) ?_ ?_ <;> intro hb <;> (try simp only [beq_false, beq_true, Bool.not_true, Bool.not_false, Bool.not_eq_true', Bool.not_eq_false', decide_eq_false_iff_not, decide_eq_true_eq, bne_iff_ne, beq_iff_eq, Bool.true_eq, Bool.false_eq, Bool.not_not, Bool.and_eq_true, Bool.or_eq_true, Bool.bne_true, Bool.bne_false, bne_eq_false_iff_eq, beq_eq_false_iff_ne, ne_eq] at hb))
        | (refine W_cond _ (by (first | (simp only [go_sem, *]; (first | done | exact rfl)) | rfl)) ?_ ?_ <;> intro hb <;> (try simp only [beq_false, beq_true, Bool.not_true, Bool.not_false, Bool.not_eq_true', Bool.not_eq_false', decide_eq_false_iff_not, decide_eq_true_eq, bne_iff_ne, beq_iff_eq, Bool.true_eq, Bool.false_eq, Bool.not_not, Bool.and_eq_true, Bool.or_eq_true, Bool.bne_true, Bool.bne_false, bne_eq_false_iff_eq, beq_eq_false_iff_ne, ne_eq] at hb)))
      all_goals exact ⟨0, by omega, rfl, .inr ⟨rfl, by simp only [keep, List.contains_cons, List.contains_nil, Nat.reduceBEq, Bool.or_true, Bool.true_or, Bool.or_false, Bool.false_or, if_true, if_false, Bool.false_eq_true, beq_self_eq_true, Nat.zero_add, Nat.reduceAdd, eq_self]⟩⟩
  · have x1 := xr_eq 4294967295 (l.foldl mo 4294967295)
    repeat' (first
      | (refine wNil ?_)
      | (refine wPure rfl (by (first | (simp only [go_sem, IntKind.signed, IntKind.max, *]; (first | done | exact rfl)) | rfl)) rfl (by (first | (simp only [go_sem, IntKind.signed, IntKind.max, *]; (first | done | exact rfl)) | rfl)) ?_; dsimp only [putT, ev, Int.toNat_zero, Nat.sub_zero, Int.toNat_natCast,  gd_zero, gd_succ, Nat.zero_add, Nat.add_zero, Nat.reduceAdd, Nat.reduceMul, List.set_cons_zero, List.set_cons_succ, keep, List.contains_cons, List.contains_nil])
      | (refine wMk rfl (by (first | (simp only [go_sem, IntKind.signed, IntKind.max, *]; (first | done | exact rfl)) | rfl)) rfl ?_; intro id hid; (try simp only [set_none_iff] at hid); refine ⟨_, (by (first | (simp only [go_sem, IntKind.signed, IntKind.max, *]; (first | done | exact rfl)) | rfl)), ?_⟩; dsimp only [putT, ev, Int.toNat_zero, Nat.sub_zero, Int.toNat_natCast,  gd_zero, gd_succ, Nat.zero_add, Nat.add_zero, Nat.reduceAdd, Nat.reduceMul, List.set_cons_zero, List.set_cons_succ, keep, List.contains_cons, List.contains_nil])
      | (refine wChk rfl (by (first | (simp only [go_sem, IntKind.signed, IntKind.max, *]; (first | done | exact rfl)) | rfl)) rfl (by (first | (simp only [go_sem, IntKind.signed, IntKind.max, *]; (first | done | exact rfl)) | rfl)) rfl ?_) | (refine wChkF rfl (by (first | (simp only [go_sem, IntKind.signed, IntKind.max, *]; (first | done | exact rfl)) | rfl)) rfl ?_)
      | (refine wSkip rfl (by (first | (simp only [go_sem, IntKind.signed, IntKind.max, *]; (first | done | exact rfl)) | rfl)) ?_; dsimp only [putT, ev, Int.toNat_zero, Nat.sub_zero, Int.toNat_natCast,  gd_zero, gd_succ, Nat.zero_add, Nat.add_zero, Nat.reduceAdd, Nat.reduceMul, List.set_cons_zero, List.set_cons_succ, keep, List.contains_cons, List.contains_nil])
      | (refine cSeq ?_) | (refine cNorm ?_) | (refine cRet ?_) | (refine cExit ?_) | (refine W_reg rfl ?_) | (refine W_block ?_) | (refine W_ret ?_) | (refine W_skip ?_) | (refine W_exit ?_) | (refine bNorm ?_) | (refine bRet ?_) | (refine bExit ?_) | (refine bExitN rfl ?_)
      | (refine cMask' (by simp only [keep, List.contains_cons, List.contains_nil, Nat.reduceBEq, Bool.or_true, Bool.true_or, Bool.or_false, Bool.false_or, if_true, if_false, Bool.false_eq_true, beq_self_eq_true, Nat.zero_add, Nat.reduceAdd, eq_self]; exact rfl) ?_)
      | (refine cT (by (first | (simp only [go_sem, IntKind.signed, IntKind.max, *]; (first | done | exact rfl)) | rfl)) ?_) | (refine cF (by (first | (simp only [go_sem, IntKind.signed, IntKind.max, *]; (first | done | exact rfl)) | rfl)) ?_)
      | (refine rRet (by (first | (simp only [go_sem, IntKind.signed, IntKind.max, *]; (first | done | exact rfl)) | rfl)) ?_) | (refine rNorm (by (first | (simp only [go_sem, IntKind.signed, IntKind.max, *]; (first | done | exact rfl)) | rfl)) ?_)
      | (refine wSplit _ rfl (by (first | (simp only [go_sem, IntKind.signed, IntKind.max, *]; (first | done | exact rfl)) | rfl)) ?_ ?_ <;> intro hb <;> (try simp only [beq_false, beq_true, Bool.not_true, Bool.not_false, Bool.not_eq_true', Bool.not_eq_false', decide_eq_false_iff_not, decide_eq_true_eq, bne_iff_ne, beq_iff_eq, Bool.true_eq, Bool.false_eq, Bool.not_not, Bool.and_eq_true, Bool.or_eq_true, Bool.bne_true, Bool.bne_false, bne_eq_false_iff_eq, beq_eq_false_iff_ne, ne_eq] at hb))
      | (refine W_cond _ (by (first | (simp only [go_sem, IntKind.signed, IntKind.max, *]; (first | done | exact rfl)) | rfl)) ?_ ?_ <;> intro hb <;> (try simp only [beq_false, beq_true, Bool.not_true, Bool.not_false, Bool.not_eq_true', Bool.not_eq_false', decide_eq_false_iff_not, decide_eq_true_eq, bne_iff_ne, beq_iff_eq, Bool.true_eq, Bool.false_eq, Bool.not_not, Bool.and_eq_true, Bool.or_eq_true, Bool.bne_true, Bool.bne_false, bne_eq_false_iff_eq, beq_eq_false_iff_ne, ne_eq] at hb)))
    all_goals exact ⟨by show AV.int .u32 (IntKind.u32.wrap ((BitVec.ofInt 32 (2 ^ 32 - 1) ^^^ BitVec.ofInt 32 (l.foldl mo 4294967295)).toNat : Int)) = _; rw [show ((2 : Int) ^ 32 - 1) = 4294967295 by decide]; rfl, rfl⟩
end Go.Proofs.YtgekngfnhhdamaaI
